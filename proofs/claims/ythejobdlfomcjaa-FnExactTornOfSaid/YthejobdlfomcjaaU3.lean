/- Part 3 of the proof that the law FnExactTornOf answers true at every input: memory as trees, the program walked over them, and what it computes; no condition. -/
import Derived.Test.YthejobdlfomcjaaProg
import Derived.KernelRfl
import Derived.Test.YthejobdlfomcjaaU2
/- What the evaluator of trees asks of the types; each by the kernel. Written by a program of this session. -/
namespace Go.Proofs.Ythejobdlfomcjaa.Ty
open Go Go.Px Go.Proofs

theorem tok2 : tok Try.prog 2 = true := by kernel_rfl
theorem tsz2 : tsz Try.prog 2 = 1 := by kernel_rfl
theorem tagg2 : tagg Try.prog 2 = false := by kernel_rfl
theorem tinfo2 : tinfo Try.prog 2 = some (1, 8) := by kernel_rfl
theorem tzc2 : tzc Try.prog 2 = some [.v (.int .i64 0)] := by kernel_rfl
theorem tzs2 : tzs Try.prog 2 = [0] := by kernel_rfl
theorem tund2 : Try.prog.underlying 2 = some (.int .i64) := by kernel_rfl
theorem tok3 : tok Try.prog 3 = true := by kernel_rfl
theorem tsz3 : tsz Try.prog 3 = 1 := by kernel_rfl
theorem tagg3 : tagg Try.prog 3 = false := by kernel_rfl
theorem tinfo3 : tinfo Try.prog 3 = some (1, 8) := by kernel_rfl
theorem tzc3 : tzc Try.prog 3 = some [.v (.int .i64 0)] := by kernel_rfl
theorem tzs3 : tzs Try.prog 3 = [0] := by kernel_rfl
theorem tund3 : Try.prog.underlying 3 = some (.int .i64) := by kernel_rfl
theorem tok4 : tok Try.prog 4 = true := by kernel_rfl
theorem tsz4 : tsz Try.prog 4 = 1 := by kernel_rfl
theorem tagg4 : tagg Try.prog 4 = false := by kernel_rfl
theorem tinfo4 : tinfo Try.prog 4 = some (1, 1) := by kernel_rfl
theorem tzc4 : tzc Try.prog 4 = some [.v (.bool false)] := by kernel_rfl
theorem tzs4 : tzs Try.prog 4 = [0] := by kernel_rfl
theorem tund4 : Try.prog.underlying 4 = some .bool := by kernel_rfl
theorem tok5 : tok Try.prog 5 = true := by kernel_rfl
theorem tsz5 : tsz Try.prog 5 = 1 := by kernel_rfl
theorem tagg5 : tagg Try.prog 5 = false := by kernel_rfl
theorem tinfo5 : tinfo Try.prog 5 = some (1, 1) := by kernel_rfl
theorem tzc5 : tzc Try.prog 5 = some [.v (.int .u8 0)] := by kernel_rfl
theorem tzs5 : tzs Try.prog 5 = [0] := by kernel_rfl
theorem tund5 : Try.prog.underlying 5 = some (.int .u8) := by kernel_rfl
theorem tok6 : tok Try.prog 6 = true := by kernel_rfl
theorem tsz6 : tsz Try.prog 6 = 1 := by kernel_rfl
theorem tagg6 : tagg Try.prog 6 = false := by kernel_rfl
theorem tinfo6 : tinfo Try.prog 6 = some (1, 1) := by kernel_rfl
theorem tzc6 : tzc Try.prog 6 = some [.v (.int .u8 0)] := by kernel_rfl
theorem tzs6 : tzs Try.prog 6 = [0] := by kernel_rfl
theorem tund6 : Try.prog.underlying 6 = some (.int .u8) := by kernel_rfl
theorem tok22 : tok Try.prog 22 = true := by kernel_rfl
theorem tsz22 : tsz Try.prog 22 = 1 := by kernel_rfl
theorem tagg22 : tagg Try.prog 22 = false := by kernel_rfl
theorem tinfo22 : tinfo Try.prog 22 = some (1, 24) := by kernel_rfl
theorem tzc22 : tzc Try.prog 22 = some [.own 2 []] := by kernel_rfl
theorem tzs22 : tzs Try.prog 22 = [2] := by kernel_rfl
theorem tel22 : tel Try.prog 22 = some 179 := by kernel_rfl
theorem tok23 : tok Try.prog 23 = true := by kernel_rfl
theorem tsz23 : tsz Try.prog 23 = 1 := by kernel_rfl
theorem tagg23 : tagg Try.prog 23 = false := by kernel_rfl
theorem tinfo23 : tinfo Try.prog 23 = some (1, 24) := by kernel_rfl
theorem tzc23 : tzc Try.prog 23 = some [.own 1 []] := by kernel_rfl
theorem tzs23 : tzs Try.prog 23 = [1] := by kernel_rfl
theorem tel23 : tel Try.prog 23 = some 2 := by kernel_rfl
theorem tok24 : tok Try.prog 24 = true := by kernel_rfl
theorem tsz24 : tsz Try.prog 24 = 1 := by kernel_rfl
theorem tagg24 : tagg Try.prog 24 = false := by kernel_rfl
theorem tinfo24 : tinfo Try.prog 24 = some (1, 24) := by kernel_rfl
theorem tzc24 : tzc Try.prog 24 = some [.own 6 []] := by kernel_rfl
theorem tzs24 : tzs Try.prog 24 = [6] := by kernel_rfl
theorem tel24 : tel Try.prog 24 = some 177 := by kernel_rfl
theorem tok25 : tok Try.prog 25 = true := by kernel_rfl
theorem tsz25 : tsz Try.prog 25 = 5 := by kernel_rfl
theorem tagg25 : tagg Try.prog 25 = true := by kernel_rfl
theorem tinfo25 : tinfo Try.prog 25 = some (5, 88) := by kernel_rfl
theorem tzc25 : tzc Try.prog 25 = some [.v (.int .i64 0), .v (.int .i64 0), .own 2 [], .own 1 [], .own 6 []] := by kernel_rfl
theorem tzs25 : tzs Try.prog 25 = [0, 0, 2, 1, 6] := by kernel_rfl
theorem tf25_0 : tfield Try.prog 25 0 = some (0, 2) := by kernel_rfl
theorem tf25_1 : tfield Try.prog 25 1 = some (1, 2) := by kernel_rfl
theorem tf25_2 : tfield Try.prog 25 2 = some (2, 22) := by kernel_rfl
theorem tf25_3 : tfield Try.prog 25 3 = some (3, 23) := by kernel_rfl
theorem tf25_4 : tfield Try.prog 25 4 = some (4, 24) := by kernel_rfl
theorem tpl25 : tplaces Try.prog 25 = some [(0, 1), (1, 1), (2, 1), (3, 1), (4, 1)] := by kernel_rfl
theorem tok26 : tok Try.prog 26 = true := by kernel_rfl
theorem tsz26 : tsz Try.prog 26 = 5 := by kernel_rfl
theorem tagg26 : tagg Try.prog 26 = true := by kernel_rfl
theorem tinfo26 : tinfo Try.prog 26 = some (5, 88) := by kernel_rfl
theorem tzc26 : tzc Try.prog 26 = some [.v (.int .i64 0), .v (.int .i64 0), .own 2 [], .own 1 [], .own 6 []] := by kernel_rfl
theorem tzs26 : tzs Try.prog 26 = [0, 0, 2, 1, 6] := by kernel_rfl
theorem tf26_0 : tfield Try.prog 26 0 = some (0, 2) := by kernel_rfl
theorem tf26_1 : tfield Try.prog 26 1 = some (1, 2) := by kernel_rfl
theorem tf26_2 : tfield Try.prog 26 2 = some (2, 22) := by kernel_rfl
theorem tf26_3 : tfield Try.prog 26 3 = some (3, 23) := by kernel_rfl
theorem tf26_4 : tfield Try.prog 26 4 = some (4, 24) := by kernel_rfl
theorem tpl26 : tplaces Try.prog 26 = some [(0, 1), (1, 1), (2, 1), (3, 1), (4, 1)] := by kernel_rfl
theorem tok29 : tok Try.prog 29 = true := by kernel_rfl
theorem tsz29 : tsz Try.prog 29 = 1 := by kernel_rfl
theorem tagg29 : tagg Try.prog 29 = false := by kernel_rfl
theorem tinfo29 : tinfo Try.prog 29 = some (1, 24) := by kernel_rfl
theorem tzc29 : tzc Try.prog 29 = some [.own 2 []] := by kernel_rfl
theorem tzs29 : tzs Try.prog 29 = [2] := by kernel_rfl
theorem tel29 : tel Try.prog 29 = some 172 := by kernel_rfl
theorem tok30 : tok Try.prog 30 = true := by kernel_rfl
theorem tsz30 : tsz Try.prog 30 = 1 := by kernel_rfl
theorem tagg30 : tagg Try.prog 30 = false := by kernel_rfl
theorem tinfo30 : tinfo Try.prog 30 = some (1, 24) := by kernel_rfl
theorem tzc30 : tzc Try.prog 30 = some [.own 6 []] := by kernel_rfl
theorem tzs30 : tzs Try.prog 30 = [6] := by kernel_rfl
theorem tel30 : tel Try.prog 30 = some 132 := by kernel_rfl
theorem tok31 : tok Try.prog 31 = true := by kernel_rfl
theorem tsz31 : tsz Try.prog 31 = 5 := by kernel_rfl
theorem tagg31 : tagg Try.prog 31 = true := by kernel_rfl
theorem tinfo31 : tinfo Try.prog 31 = some (5, 88) := by kernel_rfl
theorem tzc31 : tzc Try.prog 31 = some [.v (.int .i64 0), .v (.int .i64 0), .own 2 [], .own 1 [], .own 6 []] := by kernel_rfl
theorem tzs31 : tzs Try.prog 31 = [0, 0, 2, 1, 6] := by kernel_rfl
theorem tf31_0 : tfield Try.prog 31 0 = some (0, 2) := by kernel_rfl
theorem tf31_1 : tfield Try.prog 31 1 = some (1, 2) := by kernel_rfl
theorem tf31_2 : tfield Try.prog 31 2 = some (2, 29) := by kernel_rfl
theorem tf31_3 : tfield Try.prog 31 3 = some (3, 23) := by kernel_rfl
theorem tf31_4 : tfield Try.prog 31 4 = some (4, 30) := by kernel_rfl
theorem tpl31 : tplaces Try.prog 31 = some [(0, 1), (1, 1), (2, 1), (3, 1), (4, 1)] := by kernel_rfl
theorem tok32 : tok Try.prog 32 = true := by kernel_rfl
theorem tsz32 : tsz Try.prog 32 = 5 := by kernel_rfl
theorem tagg32 : tagg Try.prog 32 = true := by kernel_rfl
theorem tinfo32 : tinfo Try.prog 32 = some (5, 88) := by kernel_rfl
theorem tzc32 : tzc Try.prog 32 = some [.v (.int .i64 0), .v (.int .i64 0), .own 2 [], .own 1 [], .own 6 []] := by kernel_rfl
theorem tzs32 : tzs Try.prog 32 = [0, 0, 2, 1, 6] := by kernel_rfl
theorem tf32_0 : tfield Try.prog 32 0 = some (0, 2) := by kernel_rfl
theorem tf32_1 : tfield Try.prog 32 1 = some (1, 2) := by kernel_rfl
theorem tf32_2 : tfield Try.prog 32 2 = some (2, 29) := by kernel_rfl
theorem tf32_3 : tfield Try.prog 32 3 = some (3, 23) := by kernel_rfl
theorem tf32_4 : tfield Try.prog 32 4 = some (4, 30) := by kernel_rfl
theorem tpl32 : tplaces Try.prog 32 = some [(0, 1), (1, 1), (2, 1), (3, 1), (4, 1)] := by kernel_rfl
theorem tok36 : tok Try.prog 36 = true := by kernel_rfl
theorem tsz36 : tsz Try.prog 36 = 1 := by kernel_rfl
theorem tagg36 : tagg Try.prog 36 = false := by kernel_rfl
theorem tinfo36 : tinfo Try.prog 36 = some (1, 24) := by kernel_rfl
theorem tzc36 : tzc Try.prog 36 = some [.own 1 []] := by kernel_rfl
theorem tzs36 : tzs Try.prog 36 = [1] := by kernel_rfl
theorem tel36 : tel Try.prog 36 = some 53 := by kernel_rfl
theorem tok37 : tok Try.prog 37 = true := by kernel_rfl
theorem tsz37 : tsz Try.prog 37 = 1 := by kernel_rfl
theorem tagg37 : tagg Try.prog 37 = false := by kernel_rfl
theorem tinfo37 : tinfo Try.prog 37 = some (1, 24) := by kernel_rfl
theorem tzc37 : tzc Try.prog 37 = some [.own 3 []] := by kernel_rfl
theorem tzs37 : tzs Try.prog 37 = [3] := by kernel_rfl
theorem tel37 : tel Try.prog 37 = some 185 := by kernel_rfl
theorem tok38 : tok Try.prog 38 = true := by kernel_rfl
theorem tsz38 : tsz Try.prog 38 = 2 := by kernel_rfl
theorem tagg38 : tagg Try.prog 38 = true := by kernel_rfl
theorem tinfo38 : tinfo Try.prog 38 = some (2, 48) := by kernel_rfl
theorem tzc38 : tzc Try.prog 38 = some [.own 1 [], .own 3 []] := by kernel_rfl
theorem tzs38 : tzs Try.prog 38 = [1, 3] := by kernel_rfl
theorem tf38_0 : tfield Try.prog 38 0 = some (0, 36) := by kernel_rfl
theorem tf38_1 : tfield Try.prog 38 1 = some (1, 37) := by kernel_rfl
theorem tpl38 : tplaces Try.prog 38 = some [(0, 1), (1, 1)] := by kernel_rfl
theorem tok39 : tok Try.prog 39 = true := by kernel_rfl
theorem tsz39 : tsz Try.prog 39 = 2 := by kernel_rfl
theorem tagg39 : tagg Try.prog 39 = true := by kernel_rfl
theorem tinfo39 : tinfo Try.prog 39 = some (2, 48) := by kernel_rfl
theorem tzc39 : tzc Try.prog 39 = some [.own 1 [], .own 3 []] := by kernel_rfl
theorem tzs39 : tzs Try.prog 39 = [1, 3] := by kernel_rfl
theorem tf39_0 : tfield Try.prog 39 0 = some (0, 36) := by kernel_rfl
theorem tf39_1 : tfield Try.prog 39 1 = some (1, 37) := by kernel_rfl
theorem tpl39 : tplaces Try.prog 39 = some [(0, 1), (1, 1)] := by kernel_rfl
theorem tok41 : tok Try.prog 41 = true := by kernel_rfl
theorem tsz41 : tsz Try.prog 41 = 1 := by kernel_rfl
theorem tagg41 : tagg Try.prog 41 = false := by kernel_rfl
theorem tinfo41 : tinfo Try.prog 41 = some (1, 24) := by kernel_rfl
theorem tzc41 : tzc Try.prog 41 = some [.own 3 []] := by kernel_rfl
theorem tzs41 : tzs Try.prog 41 = [3] := by kernel_rfl
theorem tel41 : tel Try.prog 41 = some 162 := by kernel_rfl
theorem tok42 : tok Try.prog 42 = true := by kernel_rfl
theorem tsz42 : tsz Try.prog 42 = 2 := by kernel_rfl
theorem tagg42 : tagg Try.prog 42 = true := by kernel_rfl
theorem tinfo42 : tinfo Try.prog 42 = some (2, 48) := by kernel_rfl
theorem tzc42 : tzc Try.prog 42 = some [.own 1 [], .own 3 []] := by kernel_rfl
theorem tzs42 : tzs Try.prog 42 = [1, 3] := by kernel_rfl
theorem tf42_0 : tfield Try.prog 42 0 = some (0, 36) := by kernel_rfl
theorem tf42_1 : tfield Try.prog 42 1 = some (1, 41) := by kernel_rfl
theorem tpl42 : tplaces Try.prog 42 = some [(0, 1), (1, 1)] := by kernel_rfl
theorem tok43 : tok Try.prog 43 = true := by kernel_rfl
theorem tsz43 : tsz Try.prog 43 = 2 := by kernel_rfl
theorem tagg43 : tagg Try.prog 43 = true := by kernel_rfl
theorem tinfo43 : tinfo Try.prog 43 = some (2, 48) := by kernel_rfl
theorem tzc43 : tzc Try.prog 43 = some [.own 1 [], .own 3 []] := by kernel_rfl
theorem tzs43 : tzs Try.prog 43 = [1, 3] := by kernel_rfl
theorem tf43_0 : tfield Try.prog 43 0 = some (0, 36) := by kernel_rfl
theorem tf43_1 : tfield Try.prog 43 1 = some (1, 41) := by kernel_rfl
theorem tpl43 : tplaces Try.prog 43 = some [(0, 1), (1, 1)] := by kernel_rfl
theorem tok44 : tok Try.prog 44 = true := by kernel_rfl
theorem tsz44 : tsz Try.prog 44 = 3 := by kernel_rfl
theorem tagg44 : tagg Try.prog 44 = true := by kernel_rfl
theorem tinfo44 : tinfo Try.prog 44 = some (3, 56) := by kernel_rfl
theorem tzc44 : tzc Try.prog 44 = some [.v (.int .i64 0), .own 1 [], .own 3 []] := by kernel_rfl
theorem tzs44 : tzs Try.prog 44 = [0, 1, 3] := by kernel_rfl
theorem tf44_0 : tfield Try.prog 44 0 = some (0, 2) := by kernel_rfl
theorem tf44_1 : tfield Try.prog 44 1 = some (1, 43) := by kernel_rfl
theorem tpl44 : tplaces Try.prog 44 = some [(0, 1), (1, 2)] := by kernel_rfl
theorem tok45 : tok Try.prog 45 = true := by kernel_rfl
theorem tsz45 : tsz Try.prog 45 = 3 := by kernel_rfl
theorem tagg45 : tagg Try.prog 45 = true := by kernel_rfl
theorem tinfo45 : tinfo Try.prog 45 = some (3, 56) := by kernel_rfl
theorem tzc45 : tzc Try.prog 45 = some [.v (.int .i64 0), .own 1 [], .own 3 []] := by kernel_rfl
theorem tzs45 : tzs Try.prog 45 = [0, 1, 3] := by kernel_rfl
theorem tf45_0 : tfield Try.prog 45 0 = some (0, 2) := by kernel_rfl
theorem tf45_1 : tfield Try.prog 45 1 = some (1, 43) := by kernel_rfl
theorem tpl45 : tplaces Try.prog 45 = some [(0, 1), (1, 2)] := by kernel_rfl
theorem tok53 : tok Try.prog 53 = true := by kernel_rfl
theorem tsz53 : tsz Try.prog 53 = 1 := by kernel_rfl
theorem tagg53 : tagg Try.prog 53 = false := by kernel_rfl
theorem tinfo53 : tinfo Try.prog 53 = some (1, 24) := by kernel_rfl
theorem tzc53 : tzc Try.prog 53 = some [.own 1 []] := by kernel_rfl
theorem tzs53 : tzs Try.prog 53 = [1] := by kernel_rfl
theorem tel53 : tel Try.prog 53 = some 5 := by kernel_rfl
theorem tok55 : tok Try.prog 55 = true := by kernel_rfl
theorem tsz55 : tsz Try.prog 55 = 2 := by kernel_rfl
theorem tagg55 : tagg Try.prog 55 = true := by kernel_rfl
theorem tinfo55 : tinfo Try.prog 55 = some (2, 48) := by kernel_rfl
theorem tzc55 : tzc Try.prog 55 = some [.own 1 [], .own 1 []] := by kernel_rfl
theorem tzs55 : tzs Try.prog 55 = [1, 1] := by kernel_rfl
theorem tf55_0 : tfield Try.prog 55 0 = some (0, 53) := by kernel_rfl
theorem tf55_1 : tfield Try.prog 55 1 = some (1, 53) := by kernel_rfl
theorem tpl55 : tplaces Try.prog 55 = some [(0, 1), (1, 1)] := by kernel_rfl
theorem tok56 : tok Try.prog 56 = true := by kernel_rfl
theorem tsz56 : tsz Try.prog 56 = 2 := by kernel_rfl
theorem tagg56 : tagg Try.prog 56 = true := by kernel_rfl
theorem tinfo56 : tinfo Try.prog 56 = some (2, 48) := by kernel_rfl
theorem tzc56 : tzc Try.prog 56 = some [.own 1 [], .own 1 []] := by kernel_rfl
theorem tzs56 : tzs Try.prog 56 = [1, 1] := by kernel_rfl
theorem tf56_0 : tfield Try.prog 56 0 = some (0, 53) := by kernel_rfl
theorem tf56_1 : tfield Try.prog 56 1 = some (1, 53) := by kernel_rfl
theorem tpl56 : tplaces Try.prog 56 = some [(0, 1), (1, 1)] := by kernel_rfl
theorem tok57 : tok Try.prog 57 = true := by kernel_rfl
theorem tsz57 : tsz Try.prog 57 = 8 := by kernel_rfl
theorem tagg57 : tagg Try.prog 57 = true := by kernel_rfl
theorem tinfo57 : tinfo Try.prog 57 = some (8, 64) := by kernel_rfl
theorem tzc57 : tzc Try.prog 57 = some [.v (.int .i64 0), .v (.int .i64 0), .v (.int .i64 0), .v (.bool false), .v (.int .i64 0), .v (.bool false), .v (.int .i64 0), .v (.int .i64 0)] := by kernel_rfl
theorem tzs57 : tzs Try.prog 57 = [0, 0, 0, 0, 0, 0, 0, 0] := by kernel_rfl
theorem tf57_0 : tfield Try.prog 57 0 = some (0, 2) := by kernel_rfl
theorem tf57_1 : tfield Try.prog 57 1 = some (1, 2) := by kernel_rfl
theorem tf57_2 : tfield Try.prog 57 2 = some (2, 2) := by kernel_rfl
theorem tf57_3 : tfield Try.prog 57 3 = some (3, 4) := by kernel_rfl
theorem tf57_4 : tfield Try.prog 57 4 = some (4, 2) := by kernel_rfl
theorem tf57_5 : tfield Try.prog 57 5 = some (5, 4) := by kernel_rfl
theorem tf57_6 : tfield Try.prog 57 6 = some (6, 2) := by kernel_rfl
theorem tf57_7 : tfield Try.prog 57 7 = some (7, 2) := by kernel_rfl
theorem tpl57 : tplaces Try.prog 57 = some [(0, 1), (1, 1), (2, 1), (3, 1), (4, 1), (5, 1), (6, 1), (7, 1)] := by kernel_rfl
theorem tok58 : tok Try.prog 58 = true := by kernel_rfl
theorem tsz58 : tsz Try.prog 58 = 8 := by kernel_rfl
theorem tagg58 : tagg Try.prog 58 = true := by kernel_rfl
theorem tinfo58 : tinfo Try.prog 58 = some (8, 64) := by kernel_rfl
theorem tzc58 : tzc Try.prog 58 = some [.v (.int .i64 0), .v (.int .i64 0), .v (.int .i64 0), .v (.bool false), .v (.int .i64 0), .v (.bool false), .v (.int .i64 0), .v (.int .i64 0)] := by kernel_rfl
theorem tzs58 : tzs Try.prog 58 = [0, 0, 0, 0, 0, 0, 0, 0] := by kernel_rfl
theorem tf58_0 : tfield Try.prog 58 0 = some (0, 2) := by kernel_rfl
theorem tf58_1 : tfield Try.prog 58 1 = some (1, 2) := by kernel_rfl
theorem tf58_2 : tfield Try.prog 58 2 = some (2, 2) := by kernel_rfl
theorem tf58_3 : tfield Try.prog 58 3 = some (3, 4) := by kernel_rfl
theorem tf58_4 : tfield Try.prog 58 4 = some (4, 2) := by kernel_rfl
theorem tf58_5 : tfield Try.prog 58 5 = some (5, 4) := by kernel_rfl
theorem tf58_6 : tfield Try.prog 58 6 = some (6, 2) := by kernel_rfl
theorem tf58_7 : tfield Try.prog 58 7 = some (7, 2) := by kernel_rfl
theorem tpl58 : tplaces Try.prog 58 = some [(0, 1), (1, 1), (2, 1), (3, 1), (4, 1), (5, 1), (6, 1), (7, 1)] := by kernel_rfl
theorem tok61 : tok Try.prog 61 = true := by kernel_rfl
theorem tsz61 : tsz Try.prog 61 = 4 := by kernel_rfl
theorem tagg61 : tagg Try.prog 61 = true := by kernel_rfl
theorem tinfo61 : tinfo Try.prog 61 = some (4, 64) := by kernel_rfl
theorem tzc61 : tzc Try.prog 61 = some [.v (.int .i64 0), .v (.int .i64 0), .own 1 [], .own 1 []] := by kernel_rfl
theorem tzs61 : tzs Try.prog 61 = [0, 0, 1, 1] := by kernel_rfl
theorem tf61_0 : tfield Try.prog 61 0 = some (0, 2) := by kernel_rfl
theorem tf61_1 : tfield Try.prog 61 1 = some (1, 2) := by kernel_rfl
theorem tf61_2 : tfield Try.prog 61 2 = some (2, 56) := by kernel_rfl
theorem tpl61 : tplaces Try.prog 61 = some [(0, 1), (1, 1), (2, 2)] := by kernel_rfl
theorem tok62 : tok Try.prog 62 = true := by kernel_rfl
theorem tsz62 : tsz Try.prog 62 = 4 := by kernel_rfl
theorem tagg62 : tagg Try.prog 62 = true := by kernel_rfl
theorem tinfo62 : tinfo Try.prog 62 = some (4, 64) := by kernel_rfl
theorem tzc62 : tzc Try.prog 62 = some [.v (.int .i64 0), .v (.int .i64 0), .own 1 [], .own 1 []] := by kernel_rfl
theorem tzs62 : tzs Try.prog 62 = [0, 0, 1, 1] := by kernel_rfl
theorem tf62_0 : tfield Try.prog 62 0 = some (0, 2) := by kernel_rfl
theorem tf62_1 : tfield Try.prog 62 1 = some (1, 2) := by kernel_rfl
theorem tf62_2 : tfield Try.prog 62 2 = some (2, 56) := by kernel_rfl
theorem tpl62 : tplaces Try.prog 62 = some [(0, 1), (1, 1), (2, 2)] := by kernel_rfl
theorem tok64 : tok Try.prog 64 = true := by kernel_rfl
theorem tsz64 : tsz Try.prog 64 = 1 := by kernel_rfl
theorem tagg64 : tagg Try.prog 64 = false := by kernel_rfl
theorem tinfo64 : tinfo Try.prog 64 = some (1, 24) := by kernel_rfl
theorem tzc64 : tzc Try.prog 64 = some [.own 8 []] := by kernel_rfl
theorem tzs64 : tzs Try.prog 64 = [8] := by kernel_rfl
theorem tel64 : tel Try.prog 64 = some 58 := by kernel_rfl
theorem tok65 : tok Try.prog 65 = true := by kernel_rfl
theorem tsz65 : tsz Try.prog 65 = 3 := by kernel_rfl
theorem tagg65 : tagg Try.prog 65 = true := by kernel_rfl
theorem tinfo65 : tinfo Try.prog 65 = some (3, 40) := by kernel_rfl
theorem tzc65 : tzc Try.prog 65 = some [.v (.int .i64 0), .v (.int .i64 0), .own 8 []] := by kernel_rfl
theorem tzs65 : tzs Try.prog 65 = [0, 0, 8] := by kernel_rfl
theorem tf65_0 : tfield Try.prog 65 0 = some (0, 2) := by kernel_rfl
theorem tf65_1 : tfield Try.prog 65 1 = some (1, 2) := by kernel_rfl
theorem tf65_2 : tfield Try.prog 65 2 = some (2, 64) := by kernel_rfl
theorem tpl65 : tplaces Try.prog 65 = some [(0, 1), (1, 1), (2, 1)] := by kernel_rfl
theorem tok66 : tok Try.prog 66 = true := by kernel_rfl
theorem tsz66 : tsz Try.prog 66 = 3 := by kernel_rfl
theorem tagg66 : tagg Try.prog 66 = true := by kernel_rfl
theorem tinfo66 : tinfo Try.prog 66 = some (3, 40) := by kernel_rfl
theorem tzc66 : tzc Try.prog 66 = some [.v (.int .i64 0), .v (.int .i64 0), .own 8 []] := by kernel_rfl
theorem tzs66 : tzs Try.prog 66 = [0, 0, 8] := by kernel_rfl
theorem tf66_0 : tfield Try.prog 66 0 = some (0, 2) := by kernel_rfl
theorem tf66_1 : tfield Try.prog 66 1 = some (1, 2) := by kernel_rfl
theorem tf66_2 : tfield Try.prog 66 2 = some (2, 64) := by kernel_rfl
theorem tpl66 : tplaces Try.prog 66 = some [(0, 1), (1, 1), (2, 1)] := by kernel_rfl
theorem tok68 : tok Try.prog 68 = true := by kernel_rfl
theorem tsz68 : tsz Try.prog 68 = 2 := by kernel_rfl
theorem tagg68 : tagg Try.prog 68 = true := by kernel_rfl
theorem tinfo68 : tinfo Try.prog 68 = some (2, 32) := by kernel_rfl
theorem tzc68 : tzc Try.prog 68 = some [.v (.int .i64 0), .own 1 []] := by kernel_rfl
theorem tzs68 : tzs Try.prog 68 = [0, 1] := by kernel_rfl
theorem tf68_0 : tfield Try.prog 68 0 = some (0, 2) := by kernel_rfl
theorem tf68_1 : tfield Try.prog 68 1 = some (1, 53) := by kernel_rfl
theorem tpl68 : tplaces Try.prog 68 = some [(0, 1), (1, 1)] := by kernel_rfl
theorem tok69 : tok Try.prog 69 = true := by kernel_rfl
theorem tsz69 : tsz Try.prog 69 = 2 := by kernel_rfl
theorem tagg69 : tagg Try.prog 69 = true := by kernel_rfl
theorem tinfo69 : tinfo Try.prog 69 = some (2, 32) := by kernel_rfl
theorem tzc69 : tzc Try.prog 69 = some [.v (.int .i64 0), .own 1 []] := by kernel_rfl
theorem tzs69 : tzs Try.prog 69 = [0, 1] := by kernel_rfl
theorem tf69_0 : tfield Try.prog 69 0 = some (0, 2) := by kernel_rfl
theorem tf69_1 : tfield Try.prog 69 1 = some (1, 53) := by kernel_rfl
theorem tpl69 : tplaces Try.prog 69 = some [(0, 1), (1, 1)] := by kernel_rfl
theorem tok74 : tok Try.prog 74 = true := by kernel_rfl
theorem tsz74 : tsz Try.prog 74 = 2 := by kernel_rfl
theorem tagg74 : tagg Try.prog 74 = true := by kernel_rfl
theorem tinfo74 : tinfo Try.prog 74 = some (2, 48) := by kernel_rfl
theorem tzc74 : tzc Try.prog 74 = some [.own 1 [], .own 1 []] := by kernel_rfl
theorem tzs74 : tzs Try.prog 74 = [1, 1] := by kernel_rfl
theorem tf74_0 : tfield Try.prog 74 0 = some (0, 53) := by kernel_rfl
theorem tf74_1 : tfield Try.prog 74 1 = some (1, 53) := by kernel_rfl
theorem tpl74 : tplaces Try.prog 74 = some [(0, 1), (1, 1)] := by kernel_rfl
theorem tok75 : tok Try.prog 75 = true := by kernel_rfl
theorem tsz75 : tsz Try.prog 75 = 8 := by kernel_rfl
theorem tagg75 : tagg Try.prog 75 = true := by kernel_rfl
theorem tinfo75 : tinfo Try.prog 75 = some (8, 64) := by kernel_rfl
theorem tzc75 : tzc Try.prog 75 = some [.v (.int .i64 0), .v (.int .i64 0), .v (.int .i64 0), .v (.bool false), .v (.int .i64 0), .v (.bool false), .v (.int .i64 0), .v (.int .i64 0)] := by kernel_rfl
theorem tzs75 : tzs Try.prog 75 = [0, 0, 0, 0, 0, 0, 0, 0] := by kernel_rfl
theorem tf75_0 : tfield Try.prog 75 0 = some (0, 2) := by kernel_rfl
theorem tf75_1 : tfield Try.prog 75 1 = some (1, 2) := by kernel_rfl
theorem tf75_2 : tfield Try.prog 75 2 = some (2, 2) := by kernel_rfl
theorem tf75_3 : tfield Try.prog 75 3 = some (3, 4) := by kernel_rfl
theorem tf75_4 : tfield Try.prog 75 4 = some (4, 2) := by kernel_rfl
theorem tf75_5 : tfield Try.prog 75 5 = some (5, 4) := by kernel_rfl
theorem tf75_6 : tfield Try.prog 75 6 = some (6, 2) := by kernel_rfl
theorem tf75_7 : tfield Try.prog 75 7 = some (7, 2) := by kernel_rfl
theorem tpl75 : tplaces Try.prog 75 = some [(0, 1), (1, 1), (2, 1), (3, 1), (4, 1), (5, 1), (6, 1), (7, 1)] := by kernel_rfl
theorem tok94 : tok Try.prog 94 = true := by kernel_rfl
theorem tsz94 : tsz Try.prog 94 = 3 := by kernel_rfl
theorem tagg94 : tagg Try.prog 94 = true := by kernel_rfl
theorem tinfo94 : tinfo Try.prog 94 = some (3, 40) := by kernel_rfl
theorem tzc94 : tzc Try.prog 94 = some [.v (.int .i64 0), .v (.int .i64 0), .own 2 []] := by kernel_rfl
theorem tzs94 : tzs Try.prog 94 = [0, 0, 2] := by kernel_rfl
theorem tf94_0 : tfield Try.prog 94 0 = some (0, 2) := by kernel_rfl
theorem tf94_1 : tfield Try.prog 94 1 = some (1, 2) := by kernel_rfl
theorem tf94_2 : tfield Try.prog 94 2 = some (2, 29) := by kernel_rfl
theorem tpl94 : tplaces Try.prog 94 = some [(0, 1), (1, 1), (2, 1)] := by kernel_rfl
theorem tok95 : tok Try.prog 95 = true := by kernel_rfl
theorem tsz95 : tsz Try.prog 95 = 3 := by kernel_rfl
theorem tagg95 : tagg Try.prog 95 = true := by kernel_rfl
theorem tinfo95 : tinfo Try.prog 95 = some (3, 40) := by kernel_rfl
theorem tzc95 : tzc Try.prog 95 = some [.v (.int .i64 0), .v (.int .i64 0), .own 2 []] := by kernel_rfl
theorem tzs95 : tzs Try.prog 95 = [0, 0, 2] := by kernel_rfl
theorem tf95_0 : tfield Try.prog 95 0 = some (0, 2) := by kernel_rfl
theorem tf95_1 : tfield Try.prog 95 1 = some (1, 2) := by kernel_rfl
theorem tf95_2 : tfield Try.prog 95 2 = some (2, 29) := by kernel_rfl
theorem tpl95 : tplaces Try.prog 95 = some [(0, 1), (1, 1), (2, 1)] := by kernel_rfl
theorem tok99 : tok Try.prog 99 = true := by kernel_rfl
theorem tsz99 : tsz Try.prog 99 = 4 := by kernel_rfl
theorem tagg99 : tagg Try.prog 99 = true := by kernel_rfl
theorem tinfo99 : tinfo Try.prog 99 = some (4, 48) := by kernel_rfl
theorem tzc99 : tzc Try.prog 99 = some [.v (.int .i64 0), .v (.int .i64 0), .v (.int .i64 0), .own 2 []] := by kernel_rfl
theorem tzs99 : tzs Try.prog 99 = [0, 0, 0, 2] := by kernel_rfl
theorem tf99_0 : tfield Try.prog 99 0 = some (0, 2) := by kernel_rfl
theorem tf99_1 : tfield Try.prog 99 1 = some (1, 95) := by kernel_rfl
theorem tpl99 : tplaces Try.prog 99 = some [(0, 1), (1, 3)] := by kernel_rfl
theorem tok100 : tok Try.prog 100 = true := by kernel_rfl
theorem tsz100 : tsz Try.prog 100 = 4 := by kernel_rfl
theorem tagg100 : tagg Try.prog 100 = true := by kernel_rfl
theorem tinfo100 : tinfo Try.prog 100 = some (4, 48) := by kernel_rfl
theorem tzc100 : tzc Try.prog 100 = some [.v (.int .i64 0), .v (.int .i64 0), .v (.int .i64 0), .own 2 []] := by kernel_rfl
theorem tzs100 : tzs Try.prog 100 = [0, 0, 0, 2] := by kernel_rfl
theorem tf100_0 : tfield Try.prog 100 0 = some (0, 2) := by kernel_rfl
theorem tf100_1 : tfield Try.prog 100 1 = some (1, 95) := by kernel_rfl
theorem tpl100 : tplaces Try.prog 100 = some [(0, 1), (1, 3)] := by kernel_rfl
theorem tok106 : tok Try.prog 106 = true := by kernel_rfl
theorem tsz106 : tsz Try.prog 106 = 2 := by kernel_rfl
theorem tagg106 : tagg Try.prog 106 = true := by kernel_rfl
theorem tinfo106 : tinfo Try.prog 106 = some (2, 32) := by kernel_rfl
theorem tzc106 : tzc Try.prog 106 = some [.v (.int .i64 0), .own 1 []] := by kernel_rfl
theorem tzs106 : tzs Try.prog 106 = [0, 1] := by kernel_rfl
theorem tf106_0 : tfield Try.prog 106 0 = some (0, 2) := by kernel_rfl
theorem tf106_1 : tfield Try.prog 106 1 = some (1, 23) := by kernel_rfl
theorem tpl106 : tplaces Try.prog 106 = some [(0, 1), (1, 1)] := by kernel_rfl
theorem tok107 : tok Try.prog 107 = true := by kernel_rfl
theorem tsz107 : tsz Try.prog 107 = 2 := by kernel_rfl
theorem tagg107 : tagg Try.prog 107 = true := by kernel_rfl
theorem tinfo107 : tinfo Try.prog 107 = some (2, 32) := by kernel_rfl
theorem tzc107 : tzc Try.prog 107 = some [.v (.int .i64 0), .own 1 []] := by kernel_rfl
theorem tzs107 : tzs Try.prog 107 = [0, 1] := by kernel_rfl
theorem tf107_0 : tfield Try.prog 107 0 = some (0, 2) := by kernel_rfl
theorem tf107_1 : tfield Try.prog 107 1 = some (1, 23) := by kernel_rfl
theorem tpl107 : tplaces Try.prog 107 = some [(0, 1), (1, 1)] := by kernel_rfl
theorem tok114 : tok Try.prog 114 = true := by kernel_rfl
theorem tsz114 : tsz Try.prog 114 = 3 := by kernel_rfl
theorem tagg114 : tagg Try.prog 114 = true := by kernel_rfl
theorem tinfo114 : tinfo Try.prog 114 = some (3, 40) := by kernel_rfl
theorem tzc114 : tzc Try.prog 114 = some [.v (.int .i64 0), .v (.int .i64 0), .own 2 []] := by kernel_rfl
theorem tzs114 : tzs Try.prog 114 = [0, 0, 2] := by kernel_rfl
theorem tf114_0 : tfield Try.prog 114 0 = some (0, 2) := by kernel_rfl
theorem tf114_1 : tfield Try.prog 114 1 = some (1, 2) := by kernel_rfl
theorem tf114_2 : tfield Try.prog 114 2 = some (2, 22) := by kernel_rfl
theorem tpl114 : tplaces Try.prog 114 = some [(0, 1), (1, 1), (2, 1)] := by kernel_rfl
theorem tok115 : tok Try.prog 115 = true := by kernel_rfl
theorem tsz115 : tsz Try.prog 115 = 3 := by kernel_rfl
theorem tagg115 : tagg Try.prog 115 = true := by kernel_rfl
theorem tinfo115 : tinfo Try.prog 115 = some (3, 40) := by kernel_rfl
theorem tzc115 : tzc Try.prog 115 = some [.v (.int .i64 0), .v (.int .i64 0), .own 2 []] := by kernel_rfl
theorem tzs115 : tzs Try.prog 115 = [0, 0, 2] := by kernel_rfl
theorem tf115_0 : tfield Try.prog 115 0 = some (0, 2) := by kernel_rfl
theorem tf115_1 : tfield Try.prog 115 1 = some (1, 2) := by kernel_rfl
theorem tf115_2 : tfield Try.prog 115 2 = some (2, 22) := by kernel_rfl
theorem tpl115 : tplaces Try.prog 115 = some [(0, 1), (1, 1), (2, 1)] := by kernel_rfl
theorem tok127 : tok Try.prog 127 = true := by kernel_rfl
theorem tsz127 : tsz Try.prog 127 = 1 := by kernel_rfl
theorem tagg127 : tagg Try.prog 127 = false := by kernel_rfl
theorem tinfo127 : tinfo Try.prog 127 = some (1, 8) := by kernel_rfl
theorem tzc127 : tzc Try.prog 127 = some [.v (.pointer none)] := by kernel_rfl
theorem tzs127 : tzs Try.prog 127 = [0] := by kernel_rfl
theorem tok131 : tok Try.prog 131 = true := by kernel_rfl
theorem tsz131 : tsz Try.prog 131 = 6 := by kernel_rfl
theorem tagg131 : tagg Try.prog 131 = true := by kernel_rfl
theorem tinfo131 : tinfo Try.prog 131 = some (6, 96) := by kernel_rfl
theorem tzc131 : tzc Try.prog 131 = some [.v (.int .i64 0), .v (.int .i64 0), .v (.int .i64 0), .own 2 [], .own 2 [], .own 1 []] := by kernel_rfl
theorem tzs131 : tzs Try.prog 131 = [0, 0, 0, 2, 2, 1] := by kernel_rfl
theorem tf131_0 : tfield Try.prog 131 0 = some (0, 2) := by kernel_rfl
theorem tf131_1 : tfield Try.prog 131 1 = some (1, 2) := by kernel_rfl
theorem tf131_2 : tfield Try.prog 131 2 = some (2, 2) := by kernel_rfl
theorem tf131_3 : tfield Try.prog 131 3 = some (3, 29) := by kernel_rfl
theorem tf131_4 : tfield Try.prog 131 4 = some (4, 29) := by kernel_rfl
theorem tf131_5 : tfield Try.prog 131 5 = some (5, 23) := by kernel_rfl
theorem tpl131 : tplaces Try.prog 131 = some [(0, 1), (1, 1), (2, 1), (3, 1), (4, 1), (5, 1)] := by kernel_rfl
theorem tok132 : tok Try.prog 132 = true := by kernel_rfl
theorem tsz132 : tsz Try.prog 132 = 6 := by kernel_rfl
theorem tagg132 : tagg Try.prog 132 = true := by kernel_rfl
theorem tinfo132 : tinfo Try.prog 132 = some (6, 96) := by kernel_rfl
theorem tzc132 : tzc Try.prog 132 = some [.v (.int .i64 0), .v (.int .i64 0), .v (.int .i64 0), .own 2 [], .own 2 [], .own 1 []] := by kernel_rfl
theorem tzs132 : tzs Try.prog 132 = [0, 0, 0, 2, 2, 1] := by kernel_rfl
theorem tf132_0 : tfield Try.prog 132 0 = some (0, 2) := by kernel_rfl
theorem tf132_1 : tfield Try.prog 132 1 = some (1, 2) := by kernel_rfl
theorem tf132_2 : tfield Try.prog 132 2 = some (2, 2) := by kernel_rfl
theorem tf132_3 : tfield Try.prog 132 3 = some (3, 29) := by kernel_rfl
theorem tf132_4 : tfield Try.prog 132 4 = some (4, 29) := by kernel_rfl
theorem tf132_5 : tfield Try.prog 132 5 = some (5, 23) := by kernel_rfl
theorem tpl132 : tplaces Try.prog 132 = some [(0, 1), (1, 1), (2, 1), (3, 1), (4, 1), (5, 1)] := by kernel_rfl
theorem tok133 : tok Try.prog 133 = true := by kernel_rfl
theorem tsz133 : tsz Try.prog 133 = 1 := by kernel_rfl
theorem tagg133 : tagg Try.prog 133 = false := by kernel_rfl
theorem tinfo133 : tinfo Try.prog 133 = some (1, 24) := by kernel_rfl
theorem tzc133 : tzc Try.prog 133 = some [.own 1 []] := by kernel_rfl
theorem tzs133 : tzs Try.prog 133 = [1] := by kernel_rfl
theorem tel133 : tel Try.prog 133 = some 29 := by kernel_rfl
theorem tok145 : tok Try.prog 145 = true := by kernel_rfl
theorem tsz145 : tsz Try.prog 145 = 1 := by kernel_rfl
theorem tagg145 : tagg Try.prog 145 = false := by kernel_rfl
theorem tinfo145 : tinfo Try.prog 145 = some (1, 8) := by kernel_rfl
theorem tzc145 : tzc Try.prog 145 = some [.v (.pointer none)] := by kernel_rfl
theorem tzs145 : tzs Try.prog 145 = [0] := by kernel_rfl
theorem tok157 : tok Try.prog 157 = true := by kernel_rfl
theorem tsz157 : tsz Try.prog 157 = 1 := by kernel_rfl
theorem tagg157 : tagg Try.prog 157 = false := by kernel_rfl
theorem tinfo157 : tinfo Try.prog 157 = some (1, 8) := by kernel_rfl
theorem tzc157 : tzc Try.prog 157 = some [.v (.pointer none)] := by kernel_rfl
theorem tzs157 : tzs Try.prog 157 = [0] := by kernel_rfl
theorem tok161 : tok Try.prog 161 = true := by kernel_rfl
theorem tsz161 : tsz Try.prog 161 = 3 := by kernel_rfl
theorem tagg161 : tagg Try.prog 161 = true := by kernel_rfl
theorem tinfo161 : tinfo Try.prog 161 = some (3, 40) := by kernel_rfl
theorem tzc161 : tzc Try.prog 161 = some [.v (.int .i64 0), .v (.int .i64 0), .own 1 []] := by kernel_rfl
theorem tzs161 : tzs Try.prog 161 = [0, 0, 1] := by kernel_rfl
theorem tf161_0 : tfield Try.prog 161 0 = some (0, 2) := by kernel_rfl
theorem tf161_1 : tfield Try.prog 161 1 = some (1, 2) := by kernel_rfl
theorem tf161_2 : tfield Try.prog 161 2 = some (2, 53) := by kernel_rfl
theorem tpl161 : tplaces Try.prog 161 = some [(0, 1), (1, 1), (2, 1)] := by kernel_rfl
theorem tok162 : tok Try.prog 162 = true := by kernel_rfl
theorem tsz162 : tsz Try.prog 162 = 3 := by kernel_rfl
theorem tagg162 : tagg Try.prog 162 = true := by kernel_rfl
theorem tinfo162 : tinfo Try.prog 162 = some (3, 40) := by kernel_rfl
theorem tzc162 : tzc Try.prog 162 = some [.v (.int .i64 0), .v (.int .i64 0), .own 1 []] := by kernel_rfl
theorem tzs162 : tzs Try.prog 162 = [0, 0, 1] := by kernel_rfl
theorem tf162_0 : tfield Try.prog 162 0 = some (0, 2) := by kernel_rfl
theorem tf162_1 : tfield Try.prog 162 1 = some (1, 2) := by kernel_rfl
theorem tf162_2 : tfield Try.prog 162 2 = some (2, 53) := by kernel_rfl
theorem tpl162 : tplaces Try.prog 162 = some [(0, 1), (1, 1), (2, 1)] := by kernel_rfl
theorem tok171 : tok Try.prog 171 = true := by kernel_rfl
theorem tsz171 : tsz Try.prog 171 = 2 := by kernel_rfl
theorem tagg171 : tagg Try.prog 171 = true := by kernel_rfl
theorem tinfo171 : tinfo Try.prog 171 = some (2, 16) := by kernel_rfl
theorem tzc171 : tzc Try.prog 171 = some [.v (.int .i64 0), .v (.int .i64 0)] := by kernel_rfl
theorem tzs171 : tzs Try.prog 171 = [0, 0] := by kernel_rfl
theorem tf171_0 : tfield Try.prog 171 0 = some (0, 2) := by kernel_rfl
theorem tf171_1 : tfield Try.prog 171 1 = some (1, 2) := by kernel_rfl
theorem tpl171 : tplaces Try.prog 171 = some [(0, 1), (1, 1)] := by kernel_rfl
theorem tok172 : tok Try.prog 172 = true := by kernel_rfl
theorem tsz172 : tsz Try.prog 172 = 2 := by kernel_rfl
theorem tagg172 : tagg Try.prog 172 = true := by kernel_rfl
theorem tinfo172 : tinfo Try.prog 172 = some (2, 16) := by kernel_rfl
theorem tzc172 : tzc Try.prog 172 = some [.v (.int .i64 0), .v (.int .i64 0)] := by kernel_rfl
theorem tzs172 : tzs Try.prog 172 = [0, 0] := by kernel_rfl
theorem tf172_0 : tfield Try.prog 172 0 = some (0, 2) := by kernel_rfl
theorem tf172_1 : tfield Try.prog 172 1 = some (1, 2) := by kernel_rfl
theorem tpl172 : tplaces Try.prog 172 = some [(0, 1), (1, 1)] := by kernel_rfl
theorem tok176 : tok Try.prog 176 = true := by kernel_rfl
theorem tsz176 : tsz Try.prog 176 = 6 := by kernel_rfl
theorem tagg176 : tagg Try.prog 176 = true := by kernel_rfl
theorem tinfo176 : tinfo Try.prog 176 = some (6, 96) := by kernel_rfl
theorem tzc176 : tzc Try.prog 176 = some [.v (.int .i64 0), .v (.int .i64 0), .v (.int .i64 0), .own 2 [], .own 2 [], .own 1 []] := by kernel_rfl
theorem tzs176 : tzs Try.prog 176 = [0, 0, 0, 2, 2, 1] := by kernel_rfl
theorem tf176_0 : tfield Try.prog 176 0 = some (0, 2) := by kernel_rfl
theorem tf176_1 : tfield Try.prog 176 1 = some (1, 2) := by kernel_rfl
theorem tf176_2 : tfield Try.prog 176 2 = some (2, 2) := by kernel_rfl
theorem tf176_3 : tfield Try.prog 176 3 = some (3, 22) := by kernel_rfl
theorem tf176_4 : tfield Try.prog 176 4 = some (4, 22) := by kernel_rfl
theorem tf176_5 : tfield Try.prog 176 5 = some (5, 23) := by kernel_rfl
theorem tpl176 : tplaces Try.prog 176 = some [(0, 1), (1, 1), (2, 1), (3, 1), (4, 1), (5, 1)] := by kernel_rfl
theorem tok177 : tok Try.prog 177 = true := by kernel_rfl
theorem tsz177 : tsz Try.prog 177 = 6 := by kernel_rfl
theorem tagg177 : tagg Try.prog 177 = true := by kernel_rfl
theorem tinfo177 : tinfo Try.prog 177 = some (6, 96) := by kernel_rfl
theorem tzc177 : tzc Try.prog 177 = some [.v (.int .i64 0), .v (.int .i64 0), .v (.int .i64 0), .own 2 [], .own 2 [], .own 1 []] := by kernel_rfl
theorem tzs177 : tzs Try.prog 177 = [0, 0, 0, 2, 2, 1] := by kernel_rfl
theorem tf177_0 : tfield Try.prog 177 0 = some (0, 2) := by kernel_rfl
theorem tf177_1 : tfield Try.prog 177 1 = some (1, 2) := by kernel_rfl
theorem tf177_2 : tfield Try.prog 177 2 = some (2, 2) := by kernel_rfl
theorem tf177_3 : tfield Try.prog 177 3 = some (3, 22) := by kernel_rfl
theorem tf177_4 : tfield Try.prog 177 4 = some (4, 22) := by kernel_rfl
theorem tf177_5 : tfield Try.prog 177 5 = some (5, 23) := by kernel_rfl
theorem tpl177 : tplaces Try.prog 177 = some [(0, 1), (1, 1), (2, 1), (3, 1), (4, 1), (5, 1)] := by kernel_rfl
theorem tok179 : tok Try.prog 179 = true := by kernel_rfl
theorem tsz179 : tsz Try.prog 179 = 2 := by kernel_rfl
theorem tagg179 : tagg Try.prog 179 = true := by kernel_rfl
theorem tinfo179 : tinfo Try.prog 179 = some (2, 16) := by kernel_rfl
theorem tzc179 : tzc Try.prog 179 = some [.v (.int .i64 0), .v (.int .i64 0)] := by kernel_rfl
theorem tzs179 : tzs Try.prog 179 = [0, 0] := by kernel_rfl
theorem tf179_0 : tfield Try.prog 179 0 = some (0, 2) := by kernel_rfl
theorem tf179_1 : tfield Try.prog 179 1 = some (1, 2) := by kernel_rfl
theorem tpl179 : tplaces Try.prog 179 = some [(0, 1), (1, 1)] := by kernel_rfl
theorem tok185 : tok Try.prog 185 = true := by kernel_rfl
theorem tsz185 : tsz Try.prog 185 = 3 := by kernel_rfl
theorem tagg185 : tagg Try.prog 185 = true := by kernel_rfl
theorem tinfo185 : tinfo Try.prog 185 = some (3, 40) := by kernel_rfl
theorem tzc185 : tzc Try.prog 185 = some [.v (.int .i64 0), .v (.int .i64 0), .own 1 []] := by kernel_rfl
theorem tzs185 : tzs Try.prog 185 = [0, 0, 1] := by kernel_rfl
theorem tf185_0 : tfield Try.prog 185 0 = some (0, 2) := by kernel_rfl
theorem tf185_1 : tfield Try.prog 185 1 = some (1, 2) := by kernel_rfl
theorem tf185_2 : tfield Try.prog 185 2 = some (2, 53) := by kernel_rfl
theorem tpl185 : tplaces Try.prog 185 = some [(0, 1), (1, 1), (2, 1)] := by kernel_rfl
theorem tok188 : tok Try.prog 188 = true := by kernel_rfl
theorem tsz188 : tsz Try.prog 188 = 2 := by kernel_rfl
theorem tagg188 : tagg Try.prog 188 = true := by kernel_rfl
theorem tinfo188 : tinfo Try.prog 188 = some (2, 32) := by kernel_rfl
theorem tzc188 : tzc Try.prog 188 = some [.own 1 [], .v (.int .i64 0)] := by kernel_rfl
theorem tzs188 : tzs Try.prog 188 = [1, 0] := by kernel_rfl
theorem tf188_0 : tfield Try.prog 188 0 = some (0, 53) := by kernel_rfl
theorem tf188_1 : tfield Try.prog 188 1 = some (1, 2) := by kernel_rfl
theorem tpl188 : tplaces Try.prog 188 = some [(0, 1), (1, 1)] := by kernel_rfl
theorem tok189 : tok Try.prog 189 = true := by kernel_rfl
theorem tsz189 : tsz Try.prog 189 = 2 := by kernel_rfl
theorem tagg189 : tagg Try.prog 189 = true := by kernel_rfl
theorem tinfo189 : tinfo Try.prog 189 = some (2, 32) := by kernel_rfl
theorem tzc189 : tzc Try.prog 189 = some [.own 1 [], .v (.int .i64 0)] := by kernel_rfl
theorem tzs189 : tzs Try.prog 189 = [1, 0] := by kernel_rfl
theorem tf189_0 : tfield Try.prog 189 0 = some (0, 53) := by kernel_rfl
theorem tf189_1 : tfield Try.prog 189 1 = some (1, 2) := by kernel_rfl
theorem tpl189 : tplaces Try.prog 189 = some [(0, 1), (1, 1)] := by kernel_rfl
theorem tok209 : tok Try.prog 209 = true := by kernel_rfl
theorem tsz209 : tsz Try.prog 209 = 1 := by kernel_rfl
theorem tagg209 : tagg Try.prog 209 = false := by kernel_rfl
theorem tinfo209 : tinfo Try.prog 209 = some (1, 8) := by kernel_rfl
theorem tzc209 : tzc Try.prog 209 = some [.v (.int .u64 0)] := by kernel_rfl
theorem tzs209 : tzs Try.prog 209 = [0] := by kernel_rfl
theorem tund209 : Try.prog.underlying 209 = some (.int .u64) := by kernel_rfl
theorem tok214 : tok Try.prog 214 = true := by kernel_rfl
theorem tsz214 : tsz Try.prog 214 = 4 := by kernel_rfl
theorem tagg214 : tagg Try.prog 214 = true := by kernel_rfl
theorem tinfo214 : tinfo Try.prog 214 = some (4, 40) := by kernel_rfl
theorem tzc214 : tzc Try.prog 214 = some [.v (.pointer none), .v (.pointer none), .v (.pointer none), .v (.string ByteArray.empty)] := by kernel_rfl
theorem tzs214 : tzs Try.prog 214 = [0, 0, 0, 0] := by kernel_rfl
theorem tf214_0 : tfield Try.prog 214 0 = some (0, 17) := by kernel_rfl
theorem tf214_1 : tfield Try.prog 214 1 = some (1, 17) := by kernel_rfl
theorem tf214_2 : tfield Try.prog 214 2 = some (2, 17) := by kernel_rfl
theorem tf214_3 : tfield Try.prog 214 3 = some (3, 9) := by kernel_rfl
theorem tpl214 : tplaces Try.prog 214 = some [(0, 1), (1, 1), (2, 1), (3, 1)] := by kernel_rfl
theorem tok215 : tok Try.prog 215 = true := by kernel_rfl
theorem tsz215 : tsz Try.prog 215 = 4 := by kernel_rfl
theorem tagg215 : tagg Try.prog 215 = true := by kernel_rfl
theorem tinfo215 : tinfo Try.prog 215 = some (4, 40) := by kernel_rfl
theorem tzc215 : tzc Try.prog 215 = some [.v (.pointer none), .v (.pointer none), .v (.pointer none), .v (.string ByteArray.empty)] := by kernel_rfl
theorem tzs215 : tzs Try.prog 215 = [0, 0, 0, 0] := by kernel_rfl
theorem tf215_0 : tfield Try.prog 215 0 = some (0, 17) := by kernel_rfl
theorem tf215_1 : tfield Try.prog 215 1 = some (1, 17) := by kernel_rfl
theorem tf215_2 : tfield Try.prog 215 2 = some (2, 17) := by kernel_rfl
theorem tf215_3 : tfield Try.prog 215 3 = some (3, 9) := by kernel_rfl
theorem tpl215 : tplaces Try.prog 215 = some [(0, 1), (1, 1), (2, 1), (3, 1)] := by kernel_rfl
theorem tok217 : tok Try.prog 217 = true := by kernel_rfl
theorem tsz217 : tsz Try.prog 217 = 0 := by kernel_rfl
theorem tagg217 : tagg Try.prog 217 = true := by kernel_rfl
theorem tinfo217 : tinfo Try.prog 217 = some (0, 0) := by kernel_rfl
theorem tzc217 : tzc Try.prog 217 = some [] := by kernel_rfl
theorem tzs217 : tzs Try.prog 217 = [0] := by kernel_rfl
theorem tf217_0 : tfield Try.prog 217 0 = some (0, 216) := by kernel_rfl
theorem tok218 : tok Try.prog 218 = true := by kernel_rfl
theorem tsz218 : tsz Try.prog 218 = 0 := by kernel_rfl
theorem tagg218 : tagg Try.prog 218 = true := by kernel_rfl
theorem tinfo218 : tinfo Try.prog 218 = some (0, 0) := by kernel_rfl
theorem tzc218 : tzc Try.prog 218 = some [] := by kernel_rfl
theorem tzs218 : tzs Try.prog 218 = [0] := by kernel_rfl
theorem tf218_0 : tfield Try.prog 218 0 = some (0, 216) := by kernel_rfl
theorem tok220 : tok Try.prog 220 = true := by kernel_rfl
theorem tsz220 : tsz Try.prog 220 = 1 := by kernel_rfl
theorem tagg220 : tagg Try.prog 220 = false := by kernel_rfl
theorem tinfo220 : tinfo Try.prog 220 = some (1, 4) := by kernel_rfl
theorem tzc220 : tzc Try.prog 220 = some [.v (.int .u32 0)] := by kernel_rfl
theorem tzs220 : tzs Try.prog 220 = [0] := by kernel_rfl
theorem tund220 : Try.prog.underlying 220 = some (.int .u32) := by kernel_rfl
theorem tok221 : tok Try.prog 221 = true := by kernel_rfl
theorem tsz221 : tsz Try.prog 221 = 1 := by kernel_rfl
theorem tagg221 : tagg Try.prog 221 = false := by kernel_rfl
theorem tinfo221 : tinfo Try.prog 221 = some (1, 1) := by kernel_rfl
theorem tzc221 : tzc Try.prog 221 = some [.v (.int .u8 0)] := by kernel_rfl
theorem tzs221 : tzs Try.prog 221 = [0] := by kernel_rfl
theorem tund221 : Try.prog.underlying 221 = some (.int .u8) := by kernel_rfl
theorem tok222 : tok Try.prog 222 = true := by kernel_rfl
theorem tsz222 : tsz Try.prog 222 = 1 := by kernel_rfl
theorem tagg222 : tagg Try.prog 222 = false := by kernel_rfl
theorem tinfo222 : tinfo Try.prog 222 = some (1, 1) := by kernel_rfl
theorem tzc222 : tzc Try.prog 222 = some [.v (.int .u8 0)] := by kernel_rfl
theorem tzs222 : tzs Try.prog 222 = [0] := by kernel_rfl
theorem tund222 : Try.prog.underlying 222 = some (.int .u8) := by kernel_rfl
theorem tok224 : tok Try.prog 224 = true := by kernel_rfl
theorem tsz224 : tsz Try.prog 224 = 1 := by kernel_rfl
theorem tagg224 : tagg Try.prog 224 = false := by kernel_rfl
theorem tinfo224 : tinfo Try.prog 224 = some (1, 8) := by kernel_rfl
theorem tzc224 : tzc Try.prog 224 = some [.v (.pointer none)] := by kernel_rfl
theorem tzs224 : tzs Try.prog 224 = [0] := by kernel_rfl
theorem tok225 : tok Try.prog 225 = true := by kernel_rfl
theorem tsz225 : tsz Try.prog 225 = 1 := by kernel_rfl
theorem tagg225 : tagg Try.prog 225 = false := by kernel_rfl
theorem tinfo225 : tinfo Try.prog 225 = some (1, 4) := by kernel_rfl
theorem tzc225 : tzc Try.prog 225 = some [.v (.int .i32 0)] := by kernel_rfl
theorem tzs225 : tzs Try.prog 225 = [0] := by kernel_rfl
theorem tund225 : Try.prog.underlying 225 = some (.int .i32) := by kernel_rfl
theorem tok226 : tok Try.prog 226 = true := by kernel_rfl
theorem tsz226 : tsz Try.prog 226 = 1 := by kernel_rfl
theorem tagg226 : tagg Try.prog 226 = false := by kernel_rfl
theorem tinfo226 : tinfo Try.prog 226 = some (1, 4) := by kernel_rfl
theorem tzc226 : tzc Try.prog 226 = some [.v (.int .i32 0)] := by kernel_rfl
theorem tzs226 : tzs Try.prog 226 = [0] := by kernel_rfl
theorem tund226 : Try.prog.underlying 226 = some (.int .i32) := by kernel_rfl
theorem tok227 : tok Try.prog 227 = true := by kernel_rfl
theorem tsz227 : tsz Try.prog 227 = 11 := by kernel_rfl
theorem tagg227 : tagg Try.prog 227 = true := by kernel_rfl
theorem tinfo227 : tinfo Try.prog 227 = some (11, 48) := by kernel_rfl
theorem tzc227 : tzc Try.prog 227 = some [.v (.int .u64 0), .v (.int .u64 0), .v (.int .u32 0), .v (.int .u8 0), .v (.int .u8 0), .v (.int .u8 0), .v (.int .u8 0), .v (.nilFunc), .v (.pointer none), .v (.int .i32 0), .v (.int .i32 0)] := by kernel_rfl
theorem tzs227 : tzs Try.prog 227 = [0, 0, 0, 0, 0, 0, 0, 0, 0, 0, 0] := by kernel_rfl
theorem tf227_0 : tfield Try.prog 227 0 = some (0, 12) := by kernel_rfl
theorem tf227_1 : tfield Try.prog 227 1 = some (1, 12) := by kernel_rfl
theorem tf227_2 : tfield Try.prog 227 2 = some (2, 220) := by kernel_rfl
theorem tf227_3 : tfield Try.prog 227 3 = some (3, 221) := by kernel_rfl
theorem tf227_4 : tfield Try.prog 227 4 = some (4, 5) := by kernel_rfl
theorem tf227_5 : tfield Try.prog 227 5 = some (5, 5) := by kernel_rfl
theorem tf227_6 : tfield Try.prog 227 6 = some (6, 222) := by kernel_rfl
theorem tf227_7 : tfield Try.prog 227 7 = some (7, 223) := by kernel_rfl
theorem tf227_8 : tfield Try.prog 227 8 = some (8, 224) := by kernel_rfl
theorem tf227_9 : tfield Try.prog 227 9 = some (9, 225) := by kernel_rfl
theorem tf227_10 : tfield Try.prog 227 10 = some (10, 226) := by kernel_rfl
theorem tok228 : tok Try.prog 228 = true := by kernel_rfl
theorem tsz228 : tsz Try.prog 228 = 11 := by kernel_rfl
theorem tagg228 : tagg Try.prog 228 = true := by kernel_rfl
theorem tinfo228 : tinfo Try.prog 228 = some (11, 48) := by kernel_rfl
theorem tzc228 : tzc Try.prog 228 = some [.v (.int .u64 0), .v (.int .u64 0), .v (.int .u32 0), .v (.int .u8 0), .v (.int .u8 0), .v (.int .u8 0), .v (.int .u8 0), .v (.nilFunc), .v (.pointer none), .v (.int .i32 0), .v (.int .i32 0)] := by kernel_rfl
theorem tzs228 : tzs Try.prog 228 = [0, 0, 0, 0, 0, 0, 0, 0, 0, 0, 0] := by kernel_rfl
theorem tf228_0 : tfield Try.prog 228 0 = some (0, 12) := by kernel_rfl
theorem tf228_1 : tfield Try.prog 228 1 = some (1, 12) := by kernel_rfl
theorem tf228_2 : tfield Try.prog 228 2 = some (2, 220) := by kernel_rfl
theorem tf228_3 : tfield Try.prog 228 3 = some (3, 221) := by kernel_rfl
theorem tf228_4 : tfield Try.prog 228 4 = some (4, 5) := by kernel_rfl
theorem tf228_5 : tfield Try.prog 228 5 = some (5, 5) := by kernel_rfl
theorem tf228_6 : tfield Try.prog 228 6 = some (6, 222) := by kernel_rfl
theorem tf228_7 : tfield Try.prog 228 7 = some (7, 223) := by kernel_rfl
theorem tf228_8 : tfield Try.prog 228 8 = some (8, 224) := by kernel_rfl
theorem tf228_9 : tfield Try.prog 228 9 = some (9, 225) := by kernel_rfl
theorem tf228_10 : tfield Try.prog 228 10 = some (10, 226) := by kernel_rfl
theorem tfn2 : tfunc Try.prog 2 = true := by unfold tfunc; rw [Try.func2]; rfl
theorem tfn3 : tfunc Try.prog 3 = true := by unfold tfunc; rw [Try.func3]; rfl
theorem tfn4 : tfunc Try.prog 4 = true := by unfold tfunc; rw [Try.func4]; rfl
theorem tfn5 : tfunc Try.prog 5 = true := by unfold tfunc; rw [Try.func5]; rfl
theorem tfn6 : tfunc Try.prog 6 = true := by unfold tfunc; rw [Try.func6]; rfl
theorem tfn7 : tfunc Try.prog 7 = true := by unfold tfunc; rw [Try.func7]; rfl
theorem tfn8 : tfunc Try.prog 8 = true := by unfold tfunc; rw [Try.func8]; rfl
theorem tfn9 : tfunc Try.prog 9 = true := by unfold tfunc; rw [Try.func9]; rfl
theorem tfn10 : tfunc Try.prog 10 = true := by unfold tfunc; rw [Try.func10]; rfl
theorem tfn11 : tfunc Try.prog 11 = true := by unfold tfunc; rw [Try.func11]; rfl
theorem tfn12 : tfunc Try.prog 12 = true := by unfold tfunc; rw [Try.func12]; rfl
theorem tfn13 : tfunc Try.prog 13 = true := by unfold tfunc; rw [Try.func13]; rfl
theorem tfn14 : tfunc Try.prog 14 = true := by unfold tfunc; rw [Try.func14]; rfl
theorem tfn15 : tfunc Try.prog 15 = true := by unfold tfunc; rw [Try.func15]; rfl
theorem tfn16 : tfunc Try.prog 16 = true := by unfold tfunc; rw [Try.func16]; rfl
theorem tfn17 : tfunc Try.prog 17 = true := by unfold tfunc; rw [Try.func17]; rfl
theorem tfn18 : tfunc Try.prog 18 = true := by unfold tfunc; rw [Try.func18]; rfl
theorem tfn19 : tfunc Try.prog 19 = true := by unfold tfunc; rw [Try.func19]; rfl
theorem tfn20 : tfunc Try.prog 20 = true := by unfold tfunc; rw [Try.func20]; rfl
theorem tfn21 : tfunc Try.prog 21 = true := by unfold tfunc; rw [Try.func21]; rfl
theorem tfn22 : tfunc Try.prog 22 = true := by unfold tfunc; rw [Try.func22]; rfl
theorem tfn23 : tfunc Try.prog 23 = true := by unfold tfunc; rw [Try.func23]; rfl
theorem tfn24 : tfunc Try.prog 24 = true := by unfold tfunc; rw [Try.func24]; rfl
theorem tfn25 : tfunc Try.prog 25 = true := by unfold tfunc; rw [Try.func25]; rfl
theorem tfn26 : tfunc Try.prog 26 = true := by unfold tfunc; rw [Try.func26]; rfl
theorem tfn27 : tfunc Try.prog 27 = true := by unfold tfunc; rw [Try.func27]; rfl
theorem tfn28 : tfunc Try.prog 28 = true := by unfold tfunc; rw [Try.func28]; rfl
theorem tfn29 : tfunc Try.prog 29 = true := by unfold tfunc; rw [Try.func29]; rfl
theorem tfn30 : tfunc Try.prog 30 = true := by unfold tfunc; rw [Try.func30]; rfl
theorem tfn31 : tfunc Try.prog 31 = true := by unfold tfunc; rw [Try.func31]; rfl
theorem tfn32 : tfunc Try.prog 32 = true := by unfold tfunc; rw [Try.func32]; rfl
theorem tfn33 : tfunc Try.prog 33 = true := by unfold tfunc; rw [Try.func33]; rfl
theorem tfn34 : tfunc Try.prog 34 = true := by unfold tfunc; rw [Try.func34]; rfl
theorem tfn35 : tfunc Try.prog 35 = true := by unfold tfunc; rw [Try.func35]; rfl
theorem tfn36 : tfunc Try.prog 36 = true := by unfold tfunc; rw [Try.func36]; rfl
theorem tfn37 : tfunc Try.prog 37 = true := by unfold tfunc; rw [Try.func37]; rfl
theorem tfn38 : tfunc Try.prog 38 = true := by unfold tfunc; rw [Try.func38]; rfl
theorem tfn39 : tfunc Try.prog 39 = true := by unfold tfunc; rw [Try.func39]; rfl
theorem tfn40 : tfunc Try.prog 40 = true := by unfold tfunc; rw [Try.func40]; rfl
theorem tfn41 : tfunc Try.prog 41 = true := by unfold tfunc; rw [Try.func41]; rfl
theorem tfn42 : tfunc Try.prog 42 = true := by unfold tfunc; rw [Try.func42]; rfl
theorem tfn43 : tfunc Try.prog 43 = true := by unfold tfunc; rw [Try.func43]; rfl
theorem tfn44 : tfunc Try.prog 44 = true := by unfold tfunc; rw [Try.func44]; rfl
theorem tfn45 : tfunc Try.prog 45 = true := by unfold tfunc; rw [Try.func45]; rfl
theorem tfn46 : tfunc Try.prog 46 = true := by unfold tfunc; rw [Try.func46]; rfl
theorem tfn47 : tfunc Try.prog 47 = true := by unfold tfunc; rw [Try.func47]; rfl
theorem tfn48 : tfunc Try.prog 48 = true := by unfold tfunc; rw [Try.func48]; rfl
theorem tfn49 : tfunc Try.prog 49 = true := by unfold tfunc; rw [Try.func49]; rfl
theorem tfn50 : tfunc Try.prog 50 = true := by unfold tfunc; rw [Try.func50]; rfl
theorem tfn51 : tfunc Try.prog 51 = true := by unfold tfunc; rw [Try.func51]; rfl
theorem tfn52 : tfunc Try.prog 52 = true := by unfold tfunc; rw [Try.func52]; rfl
theorem tfn53 : tfunc Try.prog 53 = true := by unfold tfunc; rw [Try.func53]; rfl
theorem tfn54 : tfunc Try.prog 54 = true := by unfold tfunc; rw [Try.func54]; rfl
theorem tfn55 : tfunc Try.prog 55 = true := by unfold tfunc; rw [Try.func55]; rfl
theorem tfn56 : tfunc Try.prog 56 = true := by unfold tfunc; rw [Try.func56]; rfl
theorem tfn57 : tfunc Try.prog 57 = true := by unfold tfunc; rw [Try.func57]; rfl
theorem tfn58 : tfunc Try.prog 58 = true := by unfold tfunc; rw [Try.func58]; rfl
theorem tfn59 : tfunc Try.prog 59 = true := by unfold tfunc; rw [Try.func59]; rfl
theorem tfn60 : tfunc Try.prog 60 = true := by unfold tfunc; rw [Try.func60]; rfl
theorem tfn61 : tfunc Try.prog 61 = true := by unfold tfunc; rw [Try.func61]; rfl
theorem tfn62 : tfunc Try.prog 62 = true := by unfold tfunc; rw [Try.func62]; rfl
theorem tfn63 : tfunc Try.prog 63 = true := by unfold tfunc; rw [Try.func63]; rfl
theorem tfn64 : tfunc Try.prog 64 = true := by unfold tfunc; rw [Try.func64]; rfl
theorem tfn65 : tfunc Try.prog 65 = true := by unfold tfunc; rw [Try.func65]; rfl
theorem tfn66 : tfunc Try.prog 66 = true := by unfold tfunc; rw [Try.func66]; rfl
theorem tfn67 : tfunc Try.prog 67 = true := by unfold tfunc; rw [Try.func67]; rfl
theorem tfn68 : tfunc Try.prog 68 = true := by unfold tfunc; rw [Try.func68]; rfl
theorem tfn69 : tfunc Try.prog 69 = true := by unfold tfunc; rw [Try.func69]; rfl
theorem tfn70 : tfunc Try.prog 70 = true := by unfold tfunc; rw [Try.func70]; rfl
theorem tfn71 : tfunc Try.prog 71 = true := by unfold tfunc; rw [Try.func71]; rfl
theorem tfn72 : tfunc Try.prog 72 = true := by unfold tfunc; rw [Try.func72]; rfl
theorem tfn73 : tfunc Try.prog 73 = true := by unfold tfunc; rw [Try.func73]; rfl
theorem tfn74 : tfunc Try.prog 74 = true := by unfold tfunc; rw [Try.func74]; rfl
theorem tfn75 : tfunc Try.prog 75 = true := by unfold tfunc; rw [Try.func75]; rfl
theorem tfn76 : tfunc Try.prog 76 = true := by unfold tfunc; rw [Try.func76]; rfl
theorem tfn77 : tfunc Try.prog 77 = true := by unfold tfunc; rw [Try.func77]; rfl
theorem tfn78 : tfunc Try.prog 78 = true := by unfold tfunc; rw [Try.func78]; rfl
theorem tfn79 : tfunc Try.prog 79 = true := by unfold tfunc; rw [Try.func79]; rfl
theorem tfn80 : tfunc Try.prog 80 = true := by unfold tfunc; rw [Try.func80]; rfl
theorem tfn81 : tfunc Try.prog 81 = true := by unfold tfunc; rw [Try.func81]; rfl
theorem tfn82 : tfunc Try.prog 82 = true := by unfold tfunc; rw [Try.func82]; rfl
theorem tfn83 : tfunc Try.prog 83 = true := by unfold tfunc; rw [Try.func83]; rfl
theorem tfn84 : tfunc Try.prog 84 = true := by unfold tfunc; rw [Try.func84]; rfl
theorem tfn85 : tfunc Try.prog 85 = true := by unfold tfunc; rw [Try.func85]; rfl
theorem tfn86 : tfunc Try.prog 86 = true := by unfold tfunc; rw [Try.func86]; rfl
theorem tfn87 : tfunc Try.prog 87 = true := by unfold tfunc; rw [Try.func87]; rfl
theorem tfn88 : tfunc Try.prog 88 = true := by unfold tfunc; rw [Try.func88]; rfl
theorem tfn89 : tfunc Try.prog 89 = true := by unfold tfunc; rw [Try.func89]; rfl
theorem tfn90 : tfunc Try.prog 90 = true := by unfold tfunc; rw [Try.func90]; rfl
theorem tfn91 : tfunc Try.prog 91 = true := by unfold tfunc; rw [Try.func91]; rfl
theorem tfn92 : tfunc Try.prog 92 = true := by unfold tfunc; rw [Try.func92]; rfl
theorem tfn93 : tfunc Try.prog 93 = true := by unfold tfunc; rw [Try.func93]; rfl
theorem tfn94 : tfunc Try.prog 94 = true := by unfold tfunc; rw [Try.func94]; rfl
theorem tfn95 : tfunc Try.prog 95 = true := by unfold tfunc; rw [Try.func95]; rfl
theorem tfn96 : tfunc Try.prog 96 = true := by unfold tfunc; rw [Try.func96]; rfl
theorem tfn97 : tfunc Try.prog 97 = true := by unfold tfunc; rw [Try.func97]; rfl
theorem tfn98 : tfunc Try.prog 98 = true := by unfold tfunc; rw [Try.func98]; rfl
theorem tfn99 : tfunc Try.prog 99 = true := by unfold tfunc; rw [Try.func99]; rfl
theorem tfn100 : tfunc Try.prog 100 = true := by unfold tfunc; rw [Try.func100]; rfl
theorem tfn101 : tfunc Try.prog 101 = true := by unfold tfunc; rw [Try.func101]; rfl
theorem tfn102 : tfunc Try.prog 102 = true := by unfold tfunc; rw [Try.func102]; rfl
theorem tfn103 : tfunc Try.prog 103 = true := by unfold tfunc; rw [Try.func103]; rfl
theorem tfn104 : tfunc Try.prog 104 = true := by unfold tfunc; rw [Try.func104]; rfl
theorem tfn105 : tfunc Try.prog 105 = true := by unfold tfunc; rw [Try.func105]; rfl
theorem tfn106 : tfunc Try.prog 106 = true := by unfold tfunc; rw [Try.func106]; rfl
theorem tfn107 : tfunc Try.prog 107 = true := by unfold tfunc; rw [Try.func107]; rfl
theorem tfn108 : tfunc Try.prog 108 = true := by unfold tfunc; rw [Try.func108]; rfl
theorem tfn109 : tfunc Try.prog 109 = true := by unfold tfunc; rw [Try.func109]; rfl
theorem tfn110 : tfunc Try.prog 110 = true := by unfold tfunc; rw [Try.func110]; rfl
theorem tfn111 : tfunc Try.prog 111 = true := by unfold tfunc; rw [Try.func111]; rfl
theorem tfn112 : tfunc Try.prog 112 = true := by unfold tfunc; rw [Try.func112]; rfl
theorem tfn113 : tfunc Try.prog 113 = true := by unfold tfunc; rw [Try.func113]; rfl
theorem tfn114 : tfunc Try.prog 114 = true := by unfold tfunc; rw [Try.func114]; rfl
theorem tfn115 : tfunc Try.prog 115 = true := by unfold tfunc; rw [Try.func115]; rfl
theorem tfn116 : tfunc Try.prog 116 = true := by unfold tfunc; rw [Try.func116]; rfl
theorem tfn117 : tfunc Try.prog 117 = true := by unfold tfunc; rw [Try.func117]; rfl
theorem tfn118 : tfunc Try.prog 118 = true := by unfold tfunc; rw [Try.func118]; rfl
theorem tfn119 : tfunc Try.prog 119 = true := by unfold tfunc; rw [Try.func119]; rfl
theorem tfn120 : tfunc Try.prog 120 = true := by unfold tfunc; rw [Try.func120]; rfl
theorem tfn121 : tfunc Try.prog 121 = true := by unfold tfunc; rw [Try.func121]; rfl
theorem tfn122 : tfunc Try.prog 122 = true := by unfold tfunc; rw [Try.func122]; rfl
theorem tfn123 : tfunc Try.prog 123 = true := by unfold tfunc; rw [Try.func123]; rfl
theorem tfn124 : tfunc Try.prog 124 = true := by unfold tfunc; rw [Try.func124]; rfl
theorem tfn125 : tfunc Try.prog 125 = true := by unfold tfunc; rw [Try.func125]; rfl
theorem tfn126 : tfunc Try.prog 126 = true := by unfold tfunc; rw [Try.func126]; rfl
theorem tfn127 : tfunc Try.prog 127 = true := by unfold tfunc; rw [Try.func127]; rfl
theorem tfn128 : tfunc Try.prog 128 = true := by unfold tfunc; rw [Try.func128]; rfl
theorem tfn129 : tfunc Try.prog 129 = true := by unfold tfunc; rw [Try.func129]; rfl
theorem tfn130 : tfunc Try.prog 130 = true := by unfold tfunc; rw [Try.func130]; rfl
theorem tfn131 : tfunc Try.prog 131 = true := by unfold tfunc; rw [Try.func131]; rfl
theorem tfn132 : tfunc Try.prog 132 = true := by unfold tfunc; rw [Try.func132]; rfl
theorem tfn133 : tfunc Try.prog 133 = true := by unfold tfunc; rw [Try.func133]; rfl
theorem tfn134 : tfunc Try.prog 134 = true := by unfold tfunc; rw [Try.func134]; rfl
theorem tfn135 : tfunc Try.prog 135 = true := by unfold tfunc; rw [Try.func135]; rfl
theorem tfn136 : tfunc Try.prog 136 = true := by unfold tfunc; rw [Try.func136]; rfl
theorem tfn137 : tfunc Try.prog 137 = true := by unfold tfunc; rw [Try.func137]; rfl
theorem tfn138 : tfunc Try.prog 138 = true := by unfold tfunc; rw [Try.func138]; rfl
theorem tfn139 : tfunc Try.prog 139 = true := by unfold tfunc; rw [Try.func139]; rfl
theorem tfn140 : tfunc Try.prog 140 = true := by unfold tfunc; rw [Try.func140]; rfl
theorem tfn141 : tfunc Try.prog 141 = true := by unfold tfunc; rw [Try.func141]; rfl
theorem tfn142 : tfunc Try.prog 142 = true := by unfold tfunc; rw [Try.func142]; rfl
theorem tfn143 : tfunc Try.prog 143 = true := by unfold tfunc; rw [Try.func143]; rfl
theorem tfn144 : tfunc Try.prog 144 = true := by unfold tfunc; rw [Try.func144]; rfl
theorem tfn145 : tfunc Try.prog 145 = true := by unfold tfunc; rw [Try.func145]; rfl
theorem tfn146 : tfunc Try.prog 146 = true := by unfold tfunc; rw [Try.func146]; rfl
theorem tfn147 : tfunc Try.prog 147 = true := by unfold tfunc; rw [Try.func147]; rfl
theorem tfn148 : tfunc Try.prog 148 = true := by unfold tfunc; rw [Try.func148]; rfl
theorem tfn149 : tfunc Try.prog 149 = true := by unfold tfunc; rw [Try.func149]; rfl
theorem tfn150 : tfunc Try.prog 150 = true := by unfold tfunc; rw [Try.func150]; rfl
theorem tfn151 : tfunc Try.prog 151 = true := by unfold tfunc; rw [Try.func151]; rfl
theorem tfn152 : tfunc Try.prog 152 = true := by unfold tfunc; rw [Try.func152]; rfl
theorem tfn153 : tfunc Try.prog 153 = true := by unfold tfunc; rw [Try.func153]; rfl
theorem tfn154 : tfunc Try.prog 154 = true := by unfold tfunc; rw [Try.func154]; rfl
theorem tfn155 : tfunc Try.prog 155 = true := by unfold tfunc; rw [Try.func155]; rfl
theorem tfn156 : tfunc Try.prog 156 = true := by unfold tfunc; rw [Try.func156]; rfl
theorem tfn157 : tfunc Try.prog 157 = true := by unfold tfunc; rw [Try.func157]; rfl
theorem tfn158 : tfunc Try.prog 158 = true := by unfold tfunc; rw [Try.func158]; rfl
theorem tfn159 : tfunc Try.prog 159 = true := by unfold tfunc; rw [Try.func159]; rfl
theorem tfn160 : tfunc Try.prog 160 = true := by unfold tfunc; rw [Try.func160]; rfl
theorem tfn161 : tfunc Try.prog 161 = true := by unfold tfunc; rw [Try.func161]; rfl
theorem tfn162 : tfunc Try.prog 162 = true := by unfold tfunc; rw [Try.func162]; rfl
theorem tfn163 : tfunc Try.prog 163 = true := by unfold tfunc; rw [Try.func163]; rfl
theorem tfn164 : tfunc Try.prog 164 = true := by unfold tfunc; rw [Try.func164]; rfl
theorem tfn165 : tfunc Try.prog 165 = true := by unfold tfunc; rw [Try.func165]; rfl
theorem tfn166 : tfunc Try.prog 166 = true := by unfold tfunc; rw [Try.func166]; rfl
theorem tfn167 : tfunc Try.prog 167 = true := by unfold tfunc; rw [Try.func167]; rfl
theorem tfn168 : tfunc Try.prog 168 = true := by unfold tfunc; rw [Try.func168]; rfl
theorem tfn169 : tfunc Try.prog 169 = true := by unfold tfunc; rw [Try.func169]; rfl
theorem tfn170 : tfunc Try.prog 170 = true := by unfold tfunc; rw [Try.func170]; rfl
theorem tfn171 : tfunc Try.prog 171 = true := by unfold tfunc; rw [Try.func171]; rfl
theorem tfn172 : tfunc Try.prog 172 = true := by unfold tfunc; rw [Try.func172]; rfl
theorem tfn173 : tfunc Try.prog 173 = true := by unfold tfunc; rw [Try.func173]; rfl
theorem tfn174 : tfunc Try.prog 174 = true := by unfold tfunc; rw [Try.func174]; rfl
theorem tfn175 : tfunc Try.prog 175 = true := by unfold tfunc; rw [Try.func175]; rfl
theorem tfn176 : tfunc Try.prog 176 = true := by unfold tfunc; rw [Try.func176]; rfl
theorem tfn177 : tfunc Try.prog 177 = true := by unfold tfunc; rw [Try.func177]; rfl
theorem tfn178 : tfunc Try.prog 178 = true := by unfold tfunc; rw [Try.func178]; rfl
theorem tfn179 : tfunc Try.prog 179 = true := by unfold tfunc; rw [Try.func179]; rfl
theorem tfn180 : tfunc Try.prog 180 = true := by unfold tfunc; rw [Try.func180]; rfl
theorem tfn181 : tfunc Try.prog 181 = true := by unfold tfunc; rw [Try.func181]; rfl
theorem tfn182 : tfunc Try.prog 182 = true := by unfold tfunc; rw [Try.func182]; rfl
theorem tfn183 : tfunc Try.prog 183 = true := by unfold tfunc; rw [Try.func183]; rfl
theorem tfn184 : tfunc Try.prog 184 = true := by unfold tfunc; rw [Try.func184]; rfl
theorem tfn185 : tfunc Try.prog 185 = true := by unfold tfunc; rw [Try.func185]; rfl
theorem tfn186 : tfunc Try.prog 186 = true := by unfold tfunc; rw [Try.func186]; rfl
theorem tfn187 : tfunc Try.prog 187 = true := by unfold tfunc; rw [Try.func187]; rfl
theorem tfn188 : tfunc Try.prog 188 = true := by unfold tfunc; rw [Try.func188]; rfl
theorem tfn189 : tfunc Try.prog 189 = true := by unfold tfunc; rw [Try.func189]; rfl
theorem tfn190 : tfunc Try.prog 190 = true := by unfold tfunc; rw [Try.func190]; rfl
attribute [simp] tok2 tsz2 tagg2 tinfo2 tzc2 tzs2 tund2 tok3 tsz3 tagg3 tinfo3 tzc3 tzs3 tund3 tok4 tsz4 tagg4 tinfo4 tzc4 tzs4 tund4 tok5 tsz5 tagg5 tinfo5 tzc5 tzs5 tund5 tok6 tsz6 tagg6 tinfo6 tzc6 tzs6 tund6 tok22 tsz22 tagg22 tinfo22 tzc22 tzs22 tel22 tok23 tsz23 tagg23 tinfo23 tzc23 tzs23 tel23 tok24 tsz24 tagg24 tinfo24 tzc24 tzs24 tel24 tok25 tsz25 tagg25 tinfo25 tzc25 tzs25 tf25_0 tf25_1 tf25_2 tf25_3 tf25_4 tpl25 tok26 tsz26 tagg26 tinfo26 tzc26 tzs26 tf26_0 tf26_1 tf26_2 tf26_3 tf26_4 tpl26 tok29 tsz29 tagg29 tinfo29 tzc29 tzs29 tel29 tok30 tsz30 tagg30 tinfo30 tzc30 tzs30 tel30 tok31 tsz31 tagg31 tinfo31 tzc31 tzs31 tf31_0 tf31_1 tf31_2 tf31_3 tf31_4 tpl31 tok32 tsz32 tagg32 tinfo32 tzc32 tzs32 tf32_0 tf32_1 tf32_2 tf32_3 tf32_4 tpl32 tok36 tsz36 tagg36 tinfo36 tzc36 tzs36 tel36 tok37 tsz37 tagg37 tinfo37 tzc37 tzs37 tel37 tok38 tsz38 tagg38 tinfo38 tzc38 tzs38 tf38_0 tf38_1 tpl38 tok39 tsz39 tagg39 tinfo39 tzc39 tzs39 tf39_0 tf39_1 tpl39 tok41 tsz41 tagg41 tinfo41 tzc41 tzs41 tel41 tok42 tsz42 tagg42 tinfo42 tzc42 tzs42 tf42_0 tf42_1 tpl42 tok43 tsz43 tagg43 tinfo43 tzc43 tzs43 tf43_0 tf43_1 tpl43 tok44 tsz44 tagg44 tinfo44 tzc44 tzs44 tf44_0 tf44_1 tpl44 tok45 tsz45 tagg45 tinfo45 tzc45 tzs45 tf45_0 tf45_1 tpl45 tok53 tsz53 tagg53 tinfo53 tzc53 tzs53 tel53 tok55 tsz55 tagg55 tinfo55 tzc55 tzs55 tf55_0 tf55_1 tpl55 tok56 tsz56 tagg56 tinfo56 tzc56 tzs56 tf56_0 tf56_1 tpl56 tok57 tsz57 tagg57 tinfo57 tzc57 tzs57 tf57_0 tf57_1 tf57_2 tf57_3 tf57_4 tf57_5 tf57_6 tf57_7 tpl57 tok58 tsz58 tagg58 tinfo58 tzc58 tzs58 tf58_0 tf58_1 tf58_2 tf58_3 tf58_4 tf58_5 tf58_6 tf58_7 tpl58 tok61 tsz61 tagg61 tinfo61 tzc61 tzs61 tf61_0 tf61_1 tf61_2 tpl61 tok62 tsz62 tagg62 tinfo62 tzc62 tzs62 tf62_0 tf62_1 tf62_2 tpl62 tok64 tsz64 tagg64 tinfo64 tzc64 tzs64 tel64 tok65 tsz65 tagg65 tinfo65 tzc65 tzs65 tf65_0 tf65_1 tf65_2 tpl65 tok66 tsz66 tagg66 tinfo66 tzc66 tzs66 tf66_0 tf66_1 tf66_2 tpl66 tok68 tsz68 tagg68 tinfo68 tzc68 tzs68 tf68_0 tf68_1 tpl68 tok69 tsz69 tagg69 tinfo69 tzc69 tzs69 tf69_0 tf69_1 tpl69 tok74 tsz74 tagg74 tinfo74 tzc74 tzs74 tf74_0 tf74_1 tpl74 tok75 tsz75 tagg75 tinfo75 tzc75 tzs75 tf75_0 tf75_1 tf75_2 tf75_3 tf75_4 tf75_5 tf75_6 tf75_7 tpl75 tok94 tsz94 tagg94 tinfo94 tzc94 tzs94 tf94_0 tf94_1 tf94_2 tpl94 tok95 tsz95 tagg95 tinfo95 tzc95 tzs95 tf95_0 tf95_1 tf95_2 tpl95 tok99 tsz99 tagg99 tinfo99 tzc99 tzs99 tf99_0 tf99_1 tpl99 tok100 tsz100 tagg100 tinfo100 tzc100 tzs100 tf100_0 tf100_1 tpl100 tok106 tsz106 tagg106 tinfo106 tzc106 tzs106 tf106_0 tf106_1 tpl106 tok107 tsz107 tagg107 tinfo107 tzc107 tzs107 tf107_0 tf107_1 tpl107 tok114 tsz114 tagg114 tinfo114 tzc114 tzs114 tf114_0 tf114_1 tf114_2 tpl114 tok115 tsz115 tagg115 tinfo115 tzc115 tzs115 tf115_0 tf115_1 tf115_2 tpl115 tok127 tsz127 tagg127 tinfo127 tzc127 tzs127 tok131 tsz131 tagg131 tinfo131 tzc131 tzs131 tf131_0 tf131_1 tf131_2 tf131_3 tf131_4 tf131_5 tpl131 tok132 tsz132 tagg132 tinfo132 tzc132 tzs132 tf132_0 tf132_1 tf132_2 tf132_3 tf132_4 tf132_5 tpl132 tok133 tsz133 tagg133 tinfo133 tzc133 tzs133 tel133 tok145 tsz145 tagg145 tinfo145 tzc145 tzs145 tok157 tsz157 tagg157 tinfo157 tzc157 tzs157 tok161 tsz161 tagg161 tinfo161 tzc161 tzs161 tf161_0 tf161_1 tf161_2 tpl161 tok162 tsz162 tagg162 tinfo162 tzc162 tzs162 tf162_0 tf162_1 tf162_2 tpl162 tok171 tsz171 tagg171 tinfo171 tzc171 tzs171 tf171_0 tf171_1 tpl171 tok172 tsz172 tagg172 tinfo172 tzc172 tzs172 tf172_0 tf172_1 tpl172 tok176 tsz176 tagg176 tinfo176 tzc176 tzs176 tf176_0 tf176_1 tf176_2 tf176_3 tf176_4 tf176_5 tpl176 tok177 tsz177 tagg177 tinfo177 tzc177 tzs177 tf177_0 tf177_1 tf177_2 tf177_3 tf177_4 tf177_5 tpl177 tok179 tsz179 tagg179 tinfo179 tzc179 tzs179 tf179_0 tf179_1 tpl179 tok185 tsz185 tagg185 tinfo185 tzc185 tzs185 tf185_0 tf185_1 tf185_2 tpl185 tok188 tsz188 tagg188 tinfo188 tzc188 tzs188 tf188_0 tf188_1 tpl188 tok189 tsz189 tagg189 tinfo189 tzc189 tzs189 tf189_0 tf189_1 tpl189 tok209 tsz209 tagg209 tinfo209 tzc209 tzs209 tund209 tok214 tsz214 tagg214 tinfo214 tzc214 tzs214 tf214_0 tf214_1 tf214_2 tf214_3 tpl214 tok215 tsz215 tagg215 tinfo215 tzc215 tzs215 tf215_0 tf215_1 tf215_2 tf215_3 tpl215 tok217 tsz217 tagg217 tinfo217 tzc217 tzs217 tf217_0 tok218 tsz218 tagg218 tinfo218 tzc218 tzs218 tf218_0 tok220 tsz220 tagg220 tinfo220 tzc220 tzs220 tund220 tok221 tsz221 tagg221 tinfo221 tzc221 tzs221 tund221 tok222 tsz222 tagg222 tinfo222 tzc222 tzs222 tund222 tok224 tsz224 tagg224 tinfo224 tzc224 tzs224 tok225 tsz225 tagg225 tinfo225 tzc225 tzs225 tund225 tok226 tsz226 tagg226 tinfo226 tzc226 tzs226 tund226 tok227 tsz227 tagg227 tinfo227 tzc227 tzs227 tf227_0 tf227_1 tf227_2 tf227_3 tf227_4 tf227_5 tf227_6 tf227_7 tf227_8 tf227_9 tf227_10 tok228 tsz228 tagg228 tinfo228 tzc228 tzs228 tf228_0 tf228_1 tf228_2 tf228_3 tf228_4 tf228_5 tf228_6 tf228_7 tf228_8 tf228_9 tf228_10 tfn2 tfn3 tfn4 tfn5 tfn6 tfn7 tfn8 tfn9 tfn10 tfn11 tfn12 tfn13 tfn14 tfn15 tfn16 tfn17 tfn18 tfn19 tfn20 tfn21 tfn22 tfn23 tfn24 tfn25 tfn26 tfn27 tfn28 tfn29 tfn30 tfn31 tfn32 tfn33 tfn34 tfn35 tfn36 tfn37 tfn38 tfn39 tfn40 tfn41 tfn42 tfn43 tfn44 tfn45 tfn46 tfn47 tfn48 tfn49 tfn50 tfn51 tfn52 tfn53 tfn54 tfn55 tfn56 tfn57 tfn58 tfn59 tfn60 tfn61 tfn62 tfn63 tfn64 tfn65 tfn66 tfn67 tfn68 tfn69 tfn70 tfn71 tfn72 tfn73 tfn74 tfn75 tfn76 tfn77 tfn78 tfn79 tfn80 tfn81 tfn82 tfn83 tfn84 tfn85 tfn86 tfn87 tfn88 tfn89 tfn90 tfn91 tfn92 tfn93 tfn94 tfn95 tfn96 tfn97 tfn98 tfn99 tfn100 tfn101 tfn102 tfn103 tfn104 tfn105 tfn106 tfn107 tfn108 tfn109 tfn110 tfn111 tfn112 tfn113 tfn114 tfn115 tfn116 tfn117 tfn118 tfn119 tfn120 tfn121 tfn122 tfn123 tfn124 tfn125 tfn126 tfn127 tfn128 tfn129 tfn130 tfn131 tfn132 tfn133 tfn134 tfn135 tfn136 tfn137 tfn138 tfn139 tfn140 tfn141 tfn142 tfn143 tfn144 tfn145 tfn146 tfn147 tfn148 tfn149 tfn150 tfn151 tfn152 tfn153 tfn154 tfn155 tfn156 tfn157 tfn158 tfn159 tfn160 tfn161 tfn162 tfn163 tfn164 tfn165 tfn166 tfn167 tfn168 tfn169 tfn170 tfn171 tfn172 tfn173 tfn174 tfn175 tfn176 tfn177 tfn178 tfn179 tfn180 tfn181 tfn182 tfn183 tfn184 tfn185 tfn186 tfn187 tfn188 tfn189 tfn190
end Go.Proofs.Ythejobdlfomcjaa.Ty

namespace Go.Proofs.Ythejobdlfomcjaa
open Go Go.Px Go.RowKit Go.Proofs
set_option linter.unnecessarySimpa false
set_option linter.unusedVariables false
set_option linter.unusedSimpArgs false
set_option maxRecDepth 100000
attribute [-simp] Int.not_le Int.not_lt

def okByteS (B : Nat) (r : List Cell) : Prop := ∃ c0, r = [.own 1 c0] ∧ c0.length ≤ B ∧ (∀ x ∈ c0, okU8 x)
theorem okByteS_pure {B : Nat} {r : List Cell} (h : okByteS B r) : ∀ K, cells1 K r := by
  obtain ⟨c0, rfl, lc0, oc0⟩ := h
  intro K
  simp only [cells1_cons, cells1_nil, Clean_ownR, and_true]
  exact (fun x hx => okU8_pure (oc0 x hx) K)
theorem okByteS_le {B B2 : Nat} {r : List Cell} (h : okByteS B r) (hc : cntR r ≤ B2) : okByteS B2 r := by
  obtain ⟨c0, rfl, lc0, oc0⟩ := h
  simp only [cntR_cons, cntC_own, cntC_v, cntR_nil] at hc
  exact ⟨c0, rfl, (by omega), (fun x hx => oc0 x hx)⟩
theorem laws_eqByteS (H : HH) {r q r2 q2} {rows : List (List Cell)} (hb : rows.length ≤ 1048576) (ok : ∀ x ∈ rows, okU8 x) (ha : arrAt H r q = some (1, rows)) (hb2 : arrAt H r2 q2 = some (1, rows)) : PFun Try.prog 48 [.c (.sl r q 1 0 rows.length), .c (.sl r2 q2 1 0 rows.length)] H (B true) := by
  refine PFun.of [0, 1, 4, 5, 10, 14, 25] Try.func48 rfl (by simp [Try.f48]) ?_
  intro d hd0 hfr hcl hout
  have hcd : ∀ n q, CleanH (hit [((d, n), q)]) H := fun n q => hcl.at
  have ha_n : ∀ n, ¬ (d, n) = r := fun n => nm_ne (ne_of_arr hfr ha)
  have ha_d : ¬ r.1 = d := ne_of_arr hfr ha
  have ha_m : ∀ n, ¬ r = (d, n) := fun n => nm_ne' (ne_of_arr hfr ha)
  have hb2_n : ∀ n, ¬ (d, n) = r2 := fun n => nm_ne (ne_of_arr hfr hb2)
  have hb2_d : ¬ r2.1 = d := ne_of_arr hfr hb2
  have hb2_m : ∀ n, ¬ r2 = (d, n) := fun n => nm_ne' (ne_of_arr hfr hb2)
  simp (maxSteps := 4000000) [hd0, hfr, hout, hcl, hcd, delA_none, ha, ha_n, ha_d, ha_m, hb2, hb2_n, hb2_d, hb2_m, Try.f48]
  refine LoopK.intro (fun m s => ∃ i : Nat, i + m = rows.length ∧ s = ⟨[(0, .c (.sl r q 1 0 rows.length)), (1, .c (.sl r2 q2 1 0 rows.length)), (5, I i)], H, []⟩) (rows.length + 1)
    (LK.intro rows.length [0, 1, 5] [] (by omega) (by decide) (by simp (maxSteps := 4000000) [hd0, hfr, hout, hcl, hcd, delA_none, ha, ha_n, ha_d, ha_m, hb2, hb2_n, hb2_d, hb2_m]) ⟨0, by simp⟩) ?_
  rintro m s ⟨i, him, rfl⟩
  simp (maxSteps := 4000000) [hd0, hfr, hout, hcl, hcd, delA_none, ha, ha_n, ha_d, ha_m, hb2, hb2_n, hb2_d, hb2_m]
  intro hi
  have hi' : i < rows.length := by omega
  have w1 : IntKind.i64.wrap ((i : Int) + 1) = i + 1 := w64 (by omega) (by omega)
  have hok := ok _ (List.getElem_mem hi')
  obtain ⟨x0, hx⟩ := hok
  refine DrawK.intro 9 [0, 1, 5, 25] rfl (by kernel_rfl) (by decide) ?_
  simp (maxSteps := 4000000) [hd0, hfr, hout, hcl, hcd, delA_none, ha, ha_n, ha_d, ha_m, hb2, hb2_n, hb2_d, hb2_m, hi', hx, w1]
  exact LK.intro (m - 1) [0, 1, 5] [] (by omega) (by decide) (by simp (maxSteps := 4000000) [hd0, hfr, hout, hcl, hcd, delA_none, ha, ha_n, ha_d, ha_m, hb2, hb2_n, hb2_d, hb2_m]) ⟨i + 1, by omega, by simp⟩

theorem laws_eqByteSS (H : HH) {r q r2 q2} {rows : List (List Cell)} (hb : rows.length ≤ 1048576) (ok : ∀ x ∈ rows, okByteS 1048576 x) (ha : arrAt H r q = some (1, rows)) (hb2 : arrAt H r2 q2 = some (1, rows)) : PFun Try.prog 102 [.c (.sl r q 1 0 rows.length), .c (.sl r2 q2 1 0 rows.length)] H (B true) := by
  refine PFun.of [0, 1, 4, 5, 10, 14, 26] Try.func102 rfl (by simp [Try.f102]) ?_
  intro d hd0 hfr hcl hout
  have hcd : ∀ n q, CleanH (hit [((d, n), q)]) H := fun n q => hcl.at
  have ha_n : ∀ n, ¬ (d, n) = r := fun n => nm_ne (ne_of_arr hfr ha)
  have ha_d : ¬ r.1 = d := ne_of_arr hfr ha
  have ha_m : ∀ n, ¬ r = (d, n) := fun n => nm_ne' (ne_of_arr hfr ha)
  have hb2_n : ∀ n, ¬ (d, n) = r2 := fun n => nm_ne (ne_of_arr hfr hb2)
  have hb2_d : ¬ r2.1 = d := ne_of_arr hfr hb2
  have hb2_m : ∀ n, ¬ r2 = (d, n) := fun n => nm_ne' (ne_of_arr hfr hb2)
  simp (maxSteps := 4000000) [hd0, hfr, hout, hcl, hcd, delA_none, ha, ha_n, ha_d, ha_m, hb2, hb2_n, hb2_d, hb2_m, Try.f102]
  refine LoopK.intro (fun m s => ∃ i : Nat, i + m = rows.length ∧ s = ⟨[(0, .c (.sl r q 1 0 rows.length)), (1, .c (.sl r2 q2 1 0 rows.length)), (5, I i)], H, []⟩) (rows.length + 1)
    (LK.intro rows.length [0, 1, 5] [] (by omega) (by decide) (by simp (maxSteps := 4000000) [hd0, hfr, hout, hcl, hcd, delA_none, ha, ha_n, ha_d, ha_m, hb2, hb2_n, hb2_d, hb2_m]) ⟨0, by simp⟩) ?_
  rintro m s ⟨i, him, rfl⟩
  simp (maxSteps := 4000000) [hd0, hfr, hout, hcl, hcd, delA_none, ha, ha_n, ha_d, ha_m, hb2, hb2_n, hb2_d, hb2_m]
  intro hi
  have hi' : i < rows.length := by omega
  have w1 : IntKind.i64.wrap ((i : Int) + 1) = i + 1 := w64 (by omega) (by omega)
  have hok := ok _ (List.getElem_mem hi')
  obtain ⟨c0, hx, lc0, oc0⟩ := hok
  refine DrawK.intro 10 [0, 1, 5, 26] rfl (by kernel_rfl) (by decide) ?_
  have s1 := arrAt_sub ha (List.getElem?_eq_getElem hi') (f := 0) (by rw [hx]; rfl)
  have s2 := arrAt_sub hb2 (List.getElem?_eq_getElem hi') (f := 0) (by rw [hx]; rfl)
  simp (maxSteps := 4000000) [hd0, hfr, hout, hcl, hcd, delA_none, ha, ha_n, ha_d, ha_m, hb2, hb2_n, hb2_d, hb2_m, hi', hx]
  refine ⟨_, laws_eqByteS _ lc0 oc0 (by simp (maxSteps := 4000000) [hd0, hfr, hout, hcl, hcd, delA_none, ha, ha_n, ha_d, ha_m, hb2, hb2_n, hb2_d, hb2_m, s1]) (by simp (maxSteps := 4000000) [hd0, hfr, hout, hcl, hcd, delA_none, ha, ha_n, ha_d, ha_m, hb2, hb2_n, hb2_d, hb2_m, s2]), ?_⟩
  simp (maxSteps := 4000000) [hd0, hfr, hout, hcl, hcd, delA_none, ha, ha_n, ha_d, ha_m, hb2, hb2_n, hb2_d, hb2_m, w1]
  exact LK.intro (m - 1) [0, 1, 5] [] (by omega) (by decide) (by simp (maxSteps := 4000000) [hd0, hfr, hout, hcl, hcd, delA_none, ha, ha_n, ha_d, ha_m, hb2, hb2_n, hb2_d, hb2_m]) ⟨i + 1, by omega, by simp⟩

def okCell (B : Nat) (r : List Cell) : Prop := ∃ a0 a1, r = [.v (.int .i64 a0), .v (.int .i64 a1)]
theorem laws_eqInt64S (H : HH) {r q r2 q2} {rows : List (List Cell)} (hb : rows.length ≤ 1048576) (ok : ∀ x ∈ rows, okI64 x) (ha : arrAt H r q = some (1, rows)) (hb2 : arrAt H r2 q2 = some (1, rows)) : PFun Try.prog 53 [.c (.sl r q 1 0 rows.length), .c (.sl r2 q2 1 0 rows.length)] H (B true) := by
  refine PFun.of [0, 1, 4, 5, 10, 14, 25] Try.func53 rfl (by simp [Try.f53]) ?_
  intro d hd0 hfr hcl hout
  have hcd : ∀ n q, CleanH (hit [((d, n), q)]) H := fun n q => hcl.at
  have ha_n : ∀ n, ¬ (d, n) = r := fun n => nm_ne (ne_of_arr hfr ha)
  have ha_d : ¬ r.1 = d := ne_of_arr hfr ha
  have ha_m : ∀ n, ¬ r = (d, n) := fun n => nm_ne' (ne_of_arr hfr ha)
  have hb2_n : ∀ n, ¬ (d, n) = r2 := fun n => nm_ne (ne_of_arr hfr hb2)
  have hb2_d : ¬ r2.1 = d := ne_of_arr hfr hb2
  have hb2_m : ∀ n, ¬ r2 = (d, n) := fun n => nm_ne' (ne_of_arr hfr hb2)
  simp (maxSteps := 4000000) [hd0, hfr, hout, hcl, hcd, delA_none, ha, ha_n, ha_d, ha_m, hb2, hb2_n, hb2_d, hb2_m, Try.f53]
  refine LoopK.intro (fun m s => ∃ i : Nat, i + m = rows.length ∧ s = ⟨[(0, .c (.sl r q 1 0 rows.length)), (1, .c (.sl r2 q2 1 0 rows.length)), (5, I i)], H, []⟩) (rows.length + 1)
    (LK.intro rows.length [0, 1, 5] [] (by omega) (by decide) (by simp (maxSteps := 4000000) [hd0, hfr, hout, hcl, hcd, delA_none, ha, ha_n, ha_d, ha_m, hb2, hb2_n, hb2_d, hb2_m]) ⟨0, by simp⟩) ?_
  rintro m s ⟨i, him, rfl⟩
  simp (maxSteps := 4000000) [hd0, hfr, hout, hcl, hcd, delA_none, ha, ha_n, ha_d, ha_m, hb2, hb2_n, hb2_d, hb2_m]
  intro hi
  have hi' : i < rows.length := by omega
  have w1 : IntKind.i64.wrap ((i : Int) + 1) = i + 1 := w64 (by omega) (by omega)
  have hok := ok _ (List.getElem_mem hi')
  obtain ⟨x0, hx⟩ := hok
  refine DrawK.intro 9 [0, 1, 5, 25] rfl (by kernel_rfl) (by decide) ?_
  simp (maxSteps := 4000000) [hd0, hfr, hout, hcl, hcd, delA_none, ha, ha_n, ha_d, ha_m, hb2, hb2_n, hb2_d, hb2_m, hi', hx, w1]
  exact LK.intro (m - 1) [0, 1, 5] [] (by omega) (by decide) (by simp (maxSteps := 4000000) [hd0, hfr, hout, hcl, hcd, delA_none, ha, ha_n, ha_d, ha_m, hb2, hb2_n, hb2_d, hb2_m]) ⟨i + 1, by omega, by simp⟩

def okLoose (B : Nat) (r : List Cell) : Prop := ∃ a0 a1 c2, r = [.v (.int .i64 a0), .v (.int .i64 a1), .own 1 c2] ∧ c2.length ≤ B ∧ (∀ x ∈ c2, okU8 x)
theorem okLoose_pure {B : Nat} {r : List Cell} (h : okLoose B r) : ∀ K, cells1 K r := by
  obtain ⟨a0, a1, c2, rfl, lc2, oc2⟩ := h
  intro K
  simp only [cells1_cons, cells1_nil, Clean_ownR, and_true]
  exact ⟨Clean.v, Clean.v, (fun x hx => okU8_pure (oc2 x hx) K)⟩
theorem okLoose_le {B B2 : Nat} {r : List Cell} (h : okLoose B r) (hc : cntR r ≤ B2) : okLoose B2 r := by
  obtain ⟨a0, a1, c2, rfl, lc2, oc2⟩ := h
  simp only [cntR_cons, cntC_own, cntC_v, cntR_nil] at hc
  exact ⟨a0, a1, c2, rfl, (by omega), (fun x hx => oc2 x hx)⟩
theorem laws_eqLoose (H : HH) {row cs cs' : List Cell} (ok : okLoose 1048576 row) (hr : Refs H row cs) (hr' : Refs H row cs') : PFun Try.prog 156 [.a cs, .a cs'] H (B true) := by
  obtain ⟨a0, a1, c2, rfl, lc2, oc2⟩ := ok
  simp only [Refs_v, Refs_own, Refs_nil] at hr hr'
  obtain ⟨_, rfl, _, rfl, rc2, qc2, _, rfl, hc2, rfl⟩ := hr
  obtain ⟨_, rfl, _, rfl, rc2b, qc2b, _, rfl, hc2b, rfl⟩ := hr'
  refine PFun.of [2, 3, 4, 9, 14, 20] Try.func156 rfl (by simp [Try.f156]) ?_
  intro d hd0 hfr hcl hout
  have hcd : ∀ n q, CleanH (hit [((d, n), q)]) H := fun n q => hcl.at
  have hc2_n : ∀ n, ¬ (d, n) = rc2 := fun n => nm_ne (ne_of_arr hfr hc2)
  have hc2_d : ¬ rc2.1 = d := ne_of_arr hfr hc2
  have hc2_m : ∀ n, ¬ rc2 = (d, n) := fun n => nm_ne' (ne_of_arr hfr hc2)
  have hc2b_n : ∀ n, ¬ (d, n) = rc2b := fun n => nm_ne (ne_of_arr hfr hc2b)
  have hc2b_d : ¬ rc2b.1 = d := ne_of_arr hfr hc2b
  have hc2b_m : ∀ n, ¬ rc2b = (d, n) := fun n => nm_ne' (ne_of_arr hfr hc2b)
  simp (maxSteps := 4000000) [hd0, hfr, hout, hcl, hcd, delA_none, hc2, hc2_n, hc2_d, hc2_m, hc2b, hc2b_n, hc2b_d, hc2b_m, Try.f156]
  refine (laws_eqByteS _ lc2 oc2 (by simp (maxSteps := 4000000) [hd0, hfr, hout, hcl, hcd, delA_none, hc2, hc2_n, hc2_d, hc2_m, hc2b, hc2b_n, hc2b_d, hc2b_m]) (by simp (maxSteps := 4000000) [hd0, hfr, hout, hcl, hcd, delA_none, hc2, hc2_n, hc2_d, hc2_m, hc2b, hc2b_n, hc2b_d, hc2b_m])).useCK ?_
  simp (maxSteps := 4000000) [hd0, hfr, hout, hcl, hcd, delA_none, hc2, hc2_n, hc2_d, hc2_m, hc2b, hc2b_n, hc2b_d, hc2b_m]

theorem laws_eqLooseS (H : HH) {r q r2 q2} {rows : List (List Cell)} (hb : rows.length ≤ 1048576) (ok : ∀ x ∈ rows, okLoose 1048576 x) (ha : arrAt H r q = some (3, rows)) (hb2 : arrAt H r2 q2 = some (3, rows)) : PFun Try.prog 103 [.c (.sl r q 3 0 rows.length), .c (.sl r2 q2 3 0 rows.length)] H (B true) := by
  refine PFun.of [0, 1, 4, 5, 10, 14, 26] Try.func103 rfl (by simp [Try.f103]) ?_
  intro d hd0 hfr hcl hout
  have hcd : ∀ n q, CleanH (hit [((d, n), q)]) H := fun n q => hcl.at
  have ha_n : ∀ n, ¬ (d, n) = r := fun n => nm_ne (ne_of_arr hfr ha)
  have ha_d : ¬ r.1 = d := ne_of_arr hfr ha
  have ha_m : ∀ n, ¬ r = (d, n) := fun n => nm_ne' (ne_of_arr hfr ha)
  have hb2_n : ∀ n, ¬ (d, n) = r2 := fun n => nm_ne (ne_of_arr hfr hb2)
  have hb2_d : ¬ r2.1 = d := ne_of_arr hfr hb2
  have hb2_m : ∀ n, ¬ r2 = (d, n) := fun n => nm_ne' (ne_of_arr hfr hb2)
  simp (maxSteps := 4000000) [hd0, hfr, hout, hcl, hcd, delA_none, ha, ha_n, ha_d, ha_m, hb2, hb2_n, hb2_d, hb2_m, Try.f103]
  refine LoopK.intro (fun m s => ∃ i : Nat, i + m = rows.length ∧ s = ⟨[(0, .c (.sl r q 3 0 rows.length)), (1, .c (.sl r2 q2 3 0 rows.length)), (5, I i)], H, []⟩) (rows.length + 1)
    (LK.intro rows.length [0, 1, 5] [] (by omega) (by decide) (by simp (maxSteps := 4000000) [hd0, hfr, hout, hcl, hcd, delA_none, ha, ha_n, ha_d, ha_m, hb2, hb2_n, hb2_d, hb2_m]) ⟨0, by simp⟩) ?_
  rintro m s ⟨i, him, rfl⟩
  simp (maxSteps := 4000000) [hd0, hfr, hout, hcl, hcd, delA_none, ha, ha_n, ha_d, ha_m, hb2, hb2_n, hb2_d, hb2_m]
  intro hi
  have hi' : i < rows.length := by omega
  have w1 : IntKind.i64.wrap ((i : Int) + 1) = i + 1 := w64 (by omega) (by omega)
  have hok := ok _ (List.getElem_mem hi')
  obtain ⟨a0, a1, c2, hx, lc2, oc2⟩ := hok
  refine DrawK.intro 10 [0, 1, 5, 26] rfl (by kernel_rfl) (by decide) ?_
  have s1c2 := arrAt_sub ha (List.getElem?_eq_getElem hi') (f := 2) (by rw [hx]; rfl)
  have s2c2 := arrAt_sub hb2 (List.getElem?_eq_getElem hi') (f := 2) (by rw [hx]; rfl)
  simp (maxSteps := 4000000) [hd0, hfr, hout, hcl, hcd, delA_none, ha, ha_n, ha_d, ha_m, hb2, hb2_n, hb2_d, hb2_m, hi', hx]
  refine ⟨_, laws_eqLoose _ (row := [.v (.int .i64 a0), .v (.int .i64 a1), .own 1 c2]) ⟨a0, a1, c2, rfl, lc2, oc2⟩ (Refs_v.2 ⟨_, rfl, Refs_v.2 ⟨_, rfl, Refs_own.2 ⟨_, _, _, rfl, by simp (maxSteps := 4000000) [hd0, hfr, hout, hcl, hcd, delA_none, ha, ha_n, ha_d, ha_m, hb2, hb2_n, hb2_d, hb2_m, s1c2], Refs_nil.2 rfl⟩⟩⟩) (Refs_v.2 ⟨_, rfl, Refs_v.2 ⟨_, rfl, Refs_own.2 ⟨_, _, _, rfl, by simp (maxSteps := 4000000) [hd0, hfr, hout, hcl, hcd, delA_none, ha, ha_n, ha_d, ha_m, hb2, hb2_n, hb2_d, hb2_m, s2c2], Refs_nil.2 rfl⟩⟩⟩), ?_⟩
  simp (maxSteps := 4000000) [hd0, hfr, hout, hcl, hcd, delA_none, ha, ha_n, ha_d, ha_m, hb2, hb2_n, hb2_d, hb2_m, w1]
  exact LK.intro (m - 1) [0, 1, 5] [] (by omega) (by decide) (by simp (maxSteps := 4000000) [hd0, hfr, hout, hcl, hcd, delA_none, ha, ha_n, ha_d, ha_m, hb2, hb2_n, hb2_d, hb2_m]) ⟨i + 1, by omega, by simp⟩

def okDisk (B : Nat) (r : List Cell) : Prop := ∃ c0 c1, r = [.own 1 c0, .own 3 c1] ∧ c0.length ≤ B ∧ (∀ x ∈ c0, okByteS B x) ∧ c1.length ≤ B ∧ (∀ x ∈ c1, okLoose B x)
theorem okDisk_le {B B2 : Nat} {r : List Cell} (h : okDisk B r) (hc : cntR r ≤ B2) : okDisk B2 r := by
  obtain ⟨c0, c1, rfl, lc0, oc0, lc1, oc1⟩ := h
  simp only [cntR_cons, cntC_own, cntC_v, cntR_nil] at hc
  exact ⟨c0, c1, rfl, (by omega), (fun x hx => okByteS_le (oc0 x hx) (by have := cntR_mem hx; omega)), (by omega), (fun x hx => okLoose_le (oc1 x hx) (by have := cntR_mem hx; omega))⟩
theorem laws_eqDisk (H : HH) {row cs cs' : List Cell} (ok : okDisk 1048576 row) (hr : Refs H row cs) (hr' : Refs H row cs') : PFun Try.prog 24 [.a cs, .a cs'] H (B true) := by
  obtain ⟨c0, c1, rfl, lc0, oc0, lc1, oc1⟩ := ok
  simp only [Refs_v, Refs_own, Refs_nil] at hr hr'
  obtain ⟨rc0, qc0, _, rfl, hc0, rc1, qc1, _, rfl, hc1, rfl⟩ := hr
  obtain ⟨rc0b, qc0b, _, rfl, hc0b, rc1b, qc1b, _, rfl, hc1b, rfl⟩ := hr'
  refine PFun.of [2, 3, 4, 10, 16] Try.func24 rfl (by simp [Try.f24]) ?_
  intro d hd0 hfr hcl hout
  have hcd : ∀ n q, CleanH (hit [((d, n), q)]) H := fun n q => hcl.at
  have hc0_n : ∀ n, ¬ (d, n) = rc0 := fun n => nm_ne (ne_of_arr hfr hc0)
  have hc0_d : ¬ rc0.1 = d := ne_of_arr hfr hc0
  have hc0_m : ∀ n, ¬ rc0 = (d, n) := fun n => nm_ne' (ne_of_arr hfr hc0)
  have hc1_n : ∀ n, ¬ (d, n) = rc1 := fun n => nm_ne (ne_of_arr hfr hc1)
  have hc1_d : ¬ rc1.1 = d := ne_of_arr hfr hc1
  have hc1_m : ∀ n, ¬ rc1 = (d, n) := fun n => nm_ne' (ne_of_arr hfr hc1)
  have hc0b_n : ∀ n, ¬ (d, n) = rc0b := fun n => nm_ne (ne_of_arr hfr hc0b)
  have hc0b_d : ¬ rc0b.1 = d := ne_of_arr hfr hc0b
  have hc0b_m : ∀ n, ¬ rc0b = (d, n) := fun n => nm_ne' (ne_of_arr hfr hc0b)
  have hc1b_n : ∀ n, ¬ (d, n) = rc1b := fun n => nm_ne (ne_of_arr hfr hc1b)
  have hc1b_d : ¬ rc1b.1 = d := ne_of_arr hfr hc1b
  have hc1b_m : ∀ n, ¬ rc1b = (d, n) := fun n => nm_ne' (ne_of_arr hfr hc1b)
  simp (maxSteps := 4000000) [hd0, hfr, hout, hcl, hcd, delA_none, hc0, hc0_n, hc0_d, hc0_m, hc1, hc1_n, hc1_d, hc1_m, hc0b, hc0b_n, hc0b_d, hc0b_m, hc1b, hc1b_n, hc1b_d, hc1b_m, Try.f24]
  refine (laws_eqByteSS _ lc0 oc0 (by simp (maxSteps := 4000000) [hd0, hfr, hout, hcl, hcd, delA_none, hc0, hc0_n, hc0_d, hc0_m, hc1, hc1_n, hc1_d, hc1_m, hc0b, hc0b_n, hc0b_d, hc0b_m, hc1b, hc1b_n, hc1b_d, hc1b_m]) (by simp (maxSteps := 4000000) [hd0, hfr, hout, hcl, hcd, delA_none, hc0, hc0_n, hc0_d, hc0_m, hc1, hc1_n, hc1_d, hc1_m, hc0b, hc0b_n, hc0b_d, hc0b_m, hc1b, hc1b_n, hc1b_d, hc1b_m])).useCK ?_
  simp (maxSteps := 4000000) [hd0, hfr, hout, hcl, hcd, delA_none, hc0, hc0_n, hc0_d, hc0_m, hc1, hc1_n, hc1_d, hc1_m, hc0b, hc0b_n, hc0b_d, hc0b_m, hc1b, hc1b_n, hc1b_d, hc1b_m]
  refine (laws_eqLooseS _ lc1 oc1 (by simp (maxSteps := 4000000) [hd0, hfr, hout, hcl, hcd, delA_none, hc0, hc0_n, hc0_d, hc0_m, hc1, hc1_n, hc1_d, hc1_m, hc0b, hc0b_n, hc0b_d, hc0b_m, hc1b, hc1b_n, hc1b_d, hc1b_m]) (by simp (maxSteps := 4000000) [hd0, hfr, hout, hcl, hcd, delA_none, hc0, hc0_n, hc0_d, hc0_m, hc1, hc1_n, hc1_d, hc1_m, hc0b, hc0b_n, hc0b_d, hc0b_m, hc1b, hc1b_n, hc1b_d, hc1b_m])).useCK ?_
  simp (maxSteps := 4000000) [hd0, hfr, hout, hcl, hcd, delA_none, hc0, hc0_n, hc0_d, hc0_m, hc1, hc1_n, hc1_d, hc1_m, hc0b, hc0b_n, hc0b_d, hc0b_m, hc1b, hc1b_n, hc1b_d, hc1b_m]

def okDiskResult (B : Nat) (r : List Cell) : Prop := ∃ a0 c1 c2, r = [.v (.int .i64 a0), .own 1 c1, .own 3 c2] ∧ c1.length ≤ B ∧ (∀ x ∈ c1, okByteS B x) ∧ c2.length ≤ B ∧ (∀ x ∈ c2, okLoose B x)
def okIntsResult (B : Nat) (r : List Cell) : Prop := ∃ a0 c1, r = [.v (.int .i64 a0), .own 1 c1] ∧ c1.length ≤ B ∧ (∀ x ∈ c1, okI64 x)
theorem laws_eqIntsResult (H : HH) {row cs cs' : List Cell} (ok : okIntsResult 1048576 row) (hr : Refs H row cs) (hr' : Refs H row cs') : PFun Try.prog 64 [.a cs, .a cs'] H (B true) := by
  obtain ⟨a0, c1, rfl, lc1, oc1⟩ := ok
  simp only [Refs_v, Refs_own, Refs_nil] at hr hr'
  obtain ⟨_, rfl, rc1, qc1, _, rfl, hc1, rfl⟩ := hr
  obtain ⟨_, rfl, rc1b, qc1b, _, rfl, hc1b, rfl⟩ := hr'
  refine PFun.of [2, 3, 4, 9, 15] Try.func64 rfl (by simp [Try.f64]) ?_
  intro d hd0 hfr hcl hout
  have hcd : ∀ n q, CleanH (hit [((d, n), q)]) H := fun n q => hcl.at
  have hc1_n : ∀ n, ¬ (d, n) = rc1 := fun n => nm_ne (ne_of_arr hfr hc1)
  have hc1_d : ¬ rc1.1 = d := ne_of_arr hfr hc1
  have hc1_m : ∀ n, ¬ rc1 = (d, n) := fun n => nm_ne' (ne_of_arr hfr hc1)
  have hc1b_n : ∀ n, ¬ (d, n) = rc1b := fun n => nm_ne (ne_of_arr hfr hc1b)
  have hc1b_d : ¬ rc1b.1 = d := ne_of_arr hfr hc1b
  have hc1b_m : ∀ n, ¬ rc1b = (d, n) := fun n => nm_ne' (ne_of_arr hfr hc1b)
  simp (maxSteps := 4000000) [hd0, hfr, hout, hcl, hcd, delA_none, hc1, hc1_n, hc1_d, hc1_m, hc1b, hc1b_n, hc1b_d, hc1b_m, Try.f64]
  refine (laws_eqInt64S _ lc1 oc1 (by simp (maxSteps := 4000000) [hd0, hfr, hout, hcl, hcd, delA_none, hc1, hc1_n, hc1_d, hc1_m, hc1b, hc1b_n, hc1b_d, hc1b_m]) (by simp (maxSteps := 4000000) [hd0, hfr, hout, hcl, hcd, delA_none, hc1, hc1_n, hc1_d, hc1_m, hc1b, hc1b_n, hc1b_d, hc1b_m])).useCK ?_
  simp (maxSteps := 4000000) [hd0, hfr, hout, hcl, hcd, delA_none, hc1, hc1_n, hc1_d, hc1_m, hc1b, hc1b_n, hc1b_d, hc1b_m]

def okPage (B : Nat) (r : List Cell) : Prop := ∃ a0 a1 c2, r = [.v (.int .i64 a0), .v (.int .i64 a1), .own 2 c2] ∧ c2.length ≤ B ∧ (∀ x ∈ c2, okCell B x)
def okPageResult (B : Nat) (r : List Cell) : Prop := ∃ a0 a1 a2 c3, r = [.v (.int .i64 a0), .v (.int .i64 a1), .v (.int .i64 a2), .own 2 c3] ∧ c3.length ≤ B ∧ (∀ x ∈ c3, okCell B x)
theorem okByteS_lvb {r : List Cell} (h : okByteS 1048576 r) : lvR r ≤ 1048576 := by
  obtain ⟨c0, rfl, lc0, oc0⟩ := h
  simp only [lvR_cons, lvR_nil, lvC_own, lvC_v]
  have kc0 := lvRs_bound (rows := c0) (n := 1) (fun x hx => by rw [okU8_lv (oc0 x hx)]; exact Nat.le_refl _)
  omega
theorem okLoose_lvb {r : List Cell} (h : okLoose 1048576 r) : lvR r ≤ 1048578 := by
  obtain ⟨a0, a1, c2, rfl, lc2, oc2⟩ := h
  simp only [lvR_cons, lvR_nil, lvC_own, lvC_v]
  have kc2 := lvRs_bound (rows := c2) (n := 1) (fun x hx => by rw [okU8_lv (oc2 x hx)]; exact Nat.le_refl _)
  omega
theorem okDisk_lvsb {r : List Cell} (h : okDisk 1048576 r) : lvS r ≤ 2199025352704 := by
  obtain ⟨c0, c1, rfl, lc0, oc0, lc1, oc1⟩ := h
  simp only [lvS]
  have kc0 := lvRs_bound (rows := c0) (n := 1048576) (fun x hx => okByteS_lvb (oc0 x hx))
  have kc1 := lvRs_bound (rows := c1) (n := 1048578) (fun x hx => okLoose_lvb (oc1 x hx))
  omega
theorem laws_heldInt64S (H : HH) {r q} {rows : List (List Cell)} {k : Int} (hb : rows.length ≤ 1048576) (ok : ∀ x ∈ rows, okI64 x) (hk : 0 ≤ k) (hk2 : k + lvRs rows ≤ 4611686018427387904) (ha : arrAt H r q = some (1, mkRs k rows)) : PFun Try.prog 142 [.c (.sl r q 1 0 rows.length), I k] H (I (k + lvRs rows)) := by
  refine PFun.of [0, 1, 4, 5, 9, 17] Try.func142 rfl (by simp [Try.f142]) ?_
  intro d hd0 hfr hcl hout
  have hcd : ∀ n q, CleanH (hit [((d, n), q)]) H := fun n q => hcl.at
  have ha_n : ∀ n, ¬ (d, n) = r := fun n => nm_ne (ne_of_arr hfr ha)
  have ha_d : ¬ r.1 = d := ne_of_arr hfr ha
  have ha_m : ∀ n, ¬ r = (d, n) := fun n => nm_ne' (ne_of_arr hfr ha)
  simp (maxSteps := 4000000) [hd0, hfr, hout, hcl, hcd, delA_none, ha, ha_n, ha_d, ha_m, Try.f142]
  refine LoopK.intro (fun m s => ∃ i : Nat, i + m = rows.length ∧ s = ⟨[(0, .c (.sl r q 1 0 rows.length)), (1, I (k + lvRs (rows.take i))), (5, I i)], H, []⟩) (rows.length + 1)
    (LK.intro rows.length [0, 1, 5] [] (by omega) (by decide) (by simp (maxSteps := 4000000) [hd0, hfr, hout, hcl, hcd, delA_none, ha, ha_n, ha_d, ha_m]) ⟨0, by simp [lvRs]⟩) ?_
  rintro m s ⟨i, him, rfl⟩
  simp (maxSteps := 4000000) [hd0, hfr, hout, hcl, hcd, delA_none, ha, ha_n, ha_d, ha_m]
  constructor
  · intro hi
    have hi' : i < rows.length := by omega
    have w1 : IntKind.i64.wrap ((i : Int) + 1) = i + 1 := w64 (by omega) (by omega)
    have hok := ok _ (List.getElem_mem hi')
    have ht := lvRs_take hi'
    have hat := mkRs_get (k := k) hi'
    have hle := lvRs_le (rows := rows) (i := i + 1)
    obtain ⟨K, hK⟩ : ∃ K : Int, K = k + lvRs (rows.take i) := ⟨_, rfl⟩
    obtain ⟨a0, hx⟩ := hok
    rw [← hK] at hat ⊢
    rw [hx] at ht hat
    simp only [mkR_cons, mkR_nil, mkC_v, mkC_own, mkV, lvC_v, lvC_own, Int.natCast_one] at hat
    simp only [lvR_cons, lvC_v, lvC_own, lvR_nil] at ht
    have hatx := ix_of hat
    have wk1 : IntKind.i64.wrap (K + 1) = K + 1 := w64 (by omega) (by omega)
    try simp (maxSteps := 4000000) [hd0, hfr, hout, hcl, hcd, delA_none, ha, ha_n, ha_d, ha_m, hi', hatx, mkRs_length, w1, wk1]
    exact LK.intro (m - 1) [0, 1, 5] [] (by omega) (by decide) (by simp (maxSteps := 4000000) [hd0, hfr, hout, hcl, hcd, delA_none, ha, ha_n, ha_d, ha_m]) ⟨i + 1, by omega, by simp; omega⟩
  · intro h
    simp (maxSteps := 4000000) [hd0, hfr, hout, hcl, hcd, delA_none, ha, ha_n, ha_d, ha_m, lvRs_all h]

theorem okIntsResult_lvsb {r : List Cell} (h : okIntsResult 1048576 r) : lvS r ≤ 1048577 := by
  obtain ⟨a0, c1, rfl, lc1, oc1⟩ := h
  simp only [lvS]
  have kc1 := lvRs_bound (rows := c1) (n := 1) (fun x hx => by rw [okI64_lv (oc1 x hx)]; exact Nat.le_refl _)
  omega
theorem laws_heldIntsResult (H : HH) {row cs : List Cell} {k : Int} (ok : okIntsResult 1048576 row) (hk : 0 ≤ k) (hk2 : k + lvS row ≤ 4611686018427387904) (hr : Refs H (mkS k row) cs) : PFun Try.prog 66 [.a cs, I k] H (I (k + lvS row)) := by
  obtain ⟨a0, c1, rfl, lc1, oc1⟩ := ok
  simp only [mkS, Refs_v, Refs_own, Refs_nil, mkRs_length] at hr
  obtain ⟨_, rfl, rc1, qc1, _, rfl, hc1, rfl⟩ := hr
  simp only [lvS] at hk2 ⊢
  refine PFun.of [1, 2, 4, 10] Try.func66 rfl (by simp [Try.f66]) ?_
  intro d hd0 hfr hcl hout
  have hcd : ∀ n q, CleanH (hit [((d, n), q)]) H := fun n q => hcl.at
  have hc1_n : ∀ n, ¬ (d, n) = rc1 := fun n => nm_ne (ne_of_arr hfr hc1)
  have hc1_d : ¬ rc1.1 = d := ne_of_arr hfr hc1
  have hc1_m : ∀ n, ¬ rc1 = (d, n) := fun n => nm_ne' (ne_of_arr hfr hc1)
  simp (maxSteps := 4000000) [hd0, hfr, hout, hcl, hcd, delA_none, hc1, hc1_n, hc1_d, hc1_m, Try.f66]
  refine (laws_heldInt64S _ lc1 oc1 (by omega) (by omega) (by simp (maxSteps := 4000000) [hd0, hfr, hout, hcl, hcd, delA_none, hc1, hc1_n, hc1_d, hc1_m])).useCK ?_
  simp (maxSteps := 4000000) [hd0, hfr, hout, hcl, hcd, delA_none, hc1, hc1_n, hc1_d, hc1_m]
  first | (intro h; omega) | (refine ⟨fun h => by omega, fun _ => ?_⟩; skip)
  try omega

theorem laws_markByteS (H : HH) {r q} {rows : List (List Cell)} {k : Int} (hb : rows.length ≤ 1048576) (ok : ∀ x ∈ rows, okU8 x) (hk : 0 ≤ k) (hk2 : k + lvRs rows ≤ 4611686018427387904) (ha : arrAt H r q = some (1, rows)) (h0 : r.1 ≠ 0) : PUpd Try.prog 49 [.c (.sl r q 1 0 rows.length), I k] H (I (k + lvRs rows)) (setA H r q (.own 1 (mkRs k rows))) := by
  have hp : ∀ K, CleanRows K rows := fun K x hx => okU8_pure (ok x hx) K
  refine PUpd.of [0, 1, 4, 5, 9] Try.func49 rfl (by simp [Try.f49]) ?_
  intro d hd0 hfr hcl hout
  have hcd : ∀ n q, CleanH (hit [((d, n), q)]) H := fun n q => hcl.at
  have ha_n : ∀ n, ¬ (d, n) = r := fun n => nm_ne (ne_of_arr hfr ha)
  have ha_d : ¬ r.1 = d := ne_of_arr hfr ha
  have ha_m : ∀ n, ¬ r = (d, n) := fun n => nm_ne' (ne_of_arr hfr ha)
  simp (maxSteps := 4000000) [hd0, hfr, hout, hcl, hcd, delA_none, ha, ha_n, ha_d, ha_m, Try.f49]
  refine LoopK.intro (fun m s => ∃ i : Nat, i + m = rows.length ∧ s = ⟨[(0, .c (.sl r q 1 0 rows.length)), (1, I (k + lvRs (rows.take i))), (5, I i)], setA H r q (.own 1 (mkTo k rows i)), []⟩) (rows.length + 1)
    (LK.intro rows.length [0, 1, 5] [] (by omega) (by decide) (by simp (maxSteps := 4000000) [hd0, hfr, hout, hcl, hcd, delA_none, ha, ha_n, ha_d, ha_m]) ⟨0, by simp [lvRs, mkTo_zero, setA_self ha]⟩) ?_
  rintro m s ⟨i, him, rfl⟩
  have ha1 := arrAt_setA (z := 1) (rows := mkTo k rows i) ha
  simp (maxSteps := 4000000) [hd0, hfr, hout, hcl, hcd, delA_none, ha, ha_n, ha_d, ha_m]
  constructor
  · intro hi
    have hi' : i < rows.length := by omega
    have w1 : IntKind.i64.wrap ((i : Int) + 1) = i + 1 := w64 (by omega) (by omega)
    have hok := ok _ (List.getElem_mem hi')
    have hs := mkTo_set (k := k) hi'
    have ht := lvRs_take hi'
    have hat := mkTo_at (k := k) hi'
    have hle := lvRs_le (rows := rows) (i := i + 1)
    obtain ⟨K, hK⟩ : ∃ K : Int, K = k + lvRs (rows.take i) := ⟨_, rfl⟩
    obtain ⟨a0, hx⟩ := hok
    rw [← hK] at hs ⊢
    rw [hx] at hs ht hat
    simp only [mkR_cons, mkR_nil, mkC_v, mkC_own, mkV, lvC_v, lvC_own, Int.natCast_one] at hs
    simp only [lvR_cons, lvC_v, lvC_own, lvR_nil] at ht
    have hatx := ix_of hat
    have wk1 : IntKind.i64.wrap (K + 1) = K + 1 := w64 (by omega) (by omega)
    simp (maxSteps := 4000000) [hd0, hfr, hout, hcl, hcd, delA_none, ha, ha_n, ha_d, ha_m, h0, hi', hx, ha1, hatx, List.getElem?_set, mkTo_length, setA_setA ha, List.set_set, arrAt_setA ha, w1, hs, wk1]
    exact LK.intro (m - 1) [0, 1, 5] [] (by omega) (by decide) (by simp (maxSteps := 4000000) [hd0, hfr, hout, hcl, hcd, delA_none, ha, ha_n, ha_d, ha_m]) ⟨i + 1, by omega, by simp [hs]; omega⟩
  · intro h
    have hcl' := CleanH_setA (q := q) (r := r) (c := .own 1 (mkRs k rows)) hcl (by rw [Clean_ownR]; exact mkRs_clean (hp _))
    simp (maxSteps := 4000000) [hd0, hfr, hout, hcl, hcd, delA_none, ha, ha_n, ha_d, ha_m, mkTo_all h, lvRs_all h, outH_setA, hcl']

theorem laws_markByteSS (H : HH) {r q} {rows : List (List Cell)} {k : Int} (hb : rows.length ≤ 1048576) (ok : ∀ x ∈ rows, okByteS 1048576 x) (hk : 0 ≤ k) (hk2 : k + lvRs rows ≤ 4611686018427387904) (ha : arrAt H r q = some (1, rows)) (h0 : r.1 ≠ 0) : PUpd Try.prog 104 [.c (.sl r q 1 0 rows.length), I k] H (I (k + lvRs rows)) (setA H r q (.own 1 (mkRs k rows))) := by
  have hp : ∀ K, CleanRows K rows := fun K x hx => okByteS_pure (ok x hx) K
  refine PUpd.of [0, 1, 4, 5, 9] Try.func104 rfl (by simp [Try.f104]) ?_
  intro d hd0 hfr hcl hout
  have hcd : ∀ n q, CleanH (hit [((d, n), q)]) H := fun n q => hcl.at
  have ha_n : ∀ n, ¬ (d, n) = r := fun n => nm_ne (ne_of_arr hfr ha)
  have ha_d : ¬ r.1 = d := ne_of_arr hfr ha
  have ha_m : ∀ n, ¬ r = (d, n) := fun n => nm_ne' (ne_of_arr hfr ha)
  simp (maxSteps := 4000000) [hd0, hfr, hout, hcl, hcd, delA_none, ha, ha_n, ha_d, ha_m, Try.f104]
  refine LoopK.intro (fun m s => ∃ i : Nat, i + m = rows.length ∧ s = ⟨[(0, .c (.sl r q 1 0 rows.length)), (1, I (k + lvRs (rows.take i))), (5, I i)], setA H r q (.own 1 (mkTo k rows i)), []⟩) (rows.length + 1)
    (LK.intro rows.length [0, 1, 5] [] (by omega) (by decide) (by simp (maxSteps := 4000000) [hd0, hfr, hout, hcl, hcd, delA_none, ha, ha_n, ha_d, ha_m]) ⟨0, by simp [lvRs, mkTo_zero, setA_self ha]⟩) ?_
  rintro m s ⟨i, him, rfl⟩
  have ha1 := arrAt_setA (z := 1) (rows := mkTo k rows i) ha
  simp (maxSteps := 4000000) [hd0, hfr, hout, hcl, hcd, delA_none, ha, ha_n, ha_d, ha_m]
  constructor
  · intro hi
    have hi' : i < rows.length := by omega
    have w1 : IntKind.i64.wrap ((i : Int) + 1) = i + 1 := w64 (by omega) (by omega)
    have hok := ok _ (List.getElem_mem hi')
    have hs := mkTo_set (k := k) hi'
    have ht := lvRs_take hi'
    have hat := mkTo_at (k := k) hi'
    have hle := lvRs_le (rows := rows) (i := i + 1)
    obtain ⟨K, hK⟩ : ∃ K : Int, K = k + lvRs (rows.take i) := ⟨_, rfl⟩
    obtain ⟨c0, hx, lc0, oc0⟩ := hok
    rw [← hK] at hs ⊢
    rw [hx] at hs ht hat
    simp only [mkR_cons, mkR_nil, mkC_v, mkC_own, mkV, lvC_v, lvC_own, Int.natCast_one] at hs
    simp only [lvR_cons, lvC_v, lvC_own, lvR_nil] at ht
    have hatx := ix_of hat
    simp (maxSteps := 4000000) [hd0, hfr, hout, hcl, hcd, delA_none, ha, ha_n, ha_d, ha_m, h0, hi', hx, ha1, hatx, List.getElem?_set, mkTo_length, setA_setA ha, List.set_set, arrAt_setA ha]
    have e0 : arrAt (setA H r q (.own 1 ((mkTo k rows i).set i [.own 1 c0]))) r (q ++ [(i, 0)]) = some (1, c0) := arrAt_sub (arrAt_setA ha) (by simp [List.getElem?_set, mkTo_length, hi']; rfl) rfl
    have e0' : (mkTo k rows i).set i [.own 1 c0] = mkTo k rows i := by rw [set_at hat]
    rw [e0'] at e0
    refine (laws_markByteS _ lc0 oc0 (by omega) (by omega) e0 h0).useCK ?_
    have g0 : setA (setA H r q (.own 1 (mkTo k rows i))) r (q ++ [(i, 0)]) (.own 1 (mkRs (K) c0)) = setA H r q (.own 1 ((mkTo k rows i).set i [.own 1 (mkRs (K) c0)])) := by
      rw [setA_sub (arrAt_setA ha) (by first | exact hat | (simp [List.getElem?_set, mkTo_length, hi']; rfl)) rfl, setA_setA ha]; simp [List.set_set]
    simp (maxSteps := 4000000) [hd0, hfr, hout, hcl, hcd, delA_none, ha, ha_n, ha_d, ha_m, h0, hi', hx, ha1, hatx, List.getElem?_set, mkTo_length, setA_setA ha, List.set_set, arrAt_setA ha, w1, hs, g0]
    exact LK.intro (m - 1) [0, 1, 5] [] (by omega) (by decide) (by simp (maxSteps := 4000000) [hd0, hfr, hout, hcl, hcd, delA_none, ha, ha_n, ha_d, ha_m]) ⟨i + 1, by omega, by simp [hs]; omega⟩
  · intro h
    have hcl' := CleanH_setA (q := q) (r := r) (c := .own 1 (mkRs k rows)) hcl (by rw [Clean_ownR]; exact mkRs_clean (hp _))
    simp (maxSteps := 4000000) [hd0, hfr, hout, hcl, hcd, delA_none, ha, ha_n, ha_d, ha_m, mkTo_all h, lvRs_all h, outH_setA, hcl']

theorem laws_markLooseS (H : HH) {r q} {rows : List (List Cell)} {k : Int} (hb : rows.length ≤ 1048576) (ok : ∀ x ∈ rows, okLoose 1048576 x) (hk : 0 ≤ k) (hk2 : k + lvRs rows ≤ 4611686018427387904) (ha : arrAt H r q = some (3, rows)) (h0 : r.1 ≠ 0) : PUpd Try.prog 105 [.c (.sl r q 3 0 rows.length), I k] H (I (k + lvRs rows)) (setA H r q (.own 3 (mkRs k rows))) := by
  have hp : ∀ K, CleanRows K rows := fun K x hx => okLoose_pure (ok x hx) K
  refine PUpd.of [0, 1, 4, 5, 9] Try.func105 rfl (by simp [Try.f105]) ?_
  intro d hd0 hfr hcl hout
  have hcd : ∀ n q, CleanH (hit [((d, n), q)]) H := fun n q => hcl.at
  have ha_n : ∀ n, ¬ (d, n) = r := fun n => nm_ne (ne_of_arr hfr ha)
  have ha_d : ¬ r.1 = d := ne_of_arr hfr ha
  have ha_m : ∀ n, ¬ r = (d, n) := fun n => nm_ne' (ne_of_arr hfr ha)
  simp (maxSteps := 4000000) [hd0, hfr, hout, hcl, hcd, delA_none, ha, ha_n, ha_d, ha_m, Try.f105]
  refine LoopK.intro (fun m s => ∃ i : Nat, i + m = rows.length ∧ s = ⟨[(0, .c (.sl r q 3 0 rows.length)), (1, I (k + lvRs (rows.take i))), (5, I i)], setA H r q (.own 3 (mkTo k rows i)), []⟩) (rows.length + 1)
    (LK.intro rows.length [0, 1, 5] [] (by omega) (by decide) (by simp (maxSteps := 4000000) [hd0, hfr, hout, hcl, hcd, delA_none, ha, ha_n, ha_d, ha_m]) ⟨0, by simp [lvRs, mkTo_zero, setA_self ha]⟩) ?_
  rintro m s ⟨i, him, rfl⟩
  have ha1 := arrAt_setA (z := 3) (rows := mkTo k rows i) ha
  simp (maxSteps := 4000000) [hd0, hfr, hout, hcl, hcd, delA_none, ha, ha_n, ha_d, ha_m]
  constructor
  · intro hi
    have hi' : i < rows.length := by omega
    have w1 : IntKind.i64.wrap ((i : Int) + 1) = i + 1 := w64 (by omega) (by omega)
    have hok := ok _ (List.getElem_mem hi')
    have hs := mkTo_set (k := k) hi'
    have ht := lvRs_take hi'
    have hat := mkTo_at (k := k) hi'
    have hle := lvRs_le (rows := rows) (i := i + 1)
    obtain ⟨K, hK⟩ : ∃ K : Int, K = k + lvRs (rows.take i) := ⟨_, rfl⟩
    obtain ⟨a0, a1, c2, hx, lc2, oc2⟩ := hok
    rw [← hK] at hs ⊢
    rw [hx] at hs ht hat
    simp only [mkR_cons, mkR_nil, mkC_v, mkC_own, mkV, lvC_v, lvC_own, Int.natCast_one] at hs
    simp only [lvR_cons, lvC_v, lvC_own, lvR_nil] at ht
    have hatx := ix_of hat
    have wk1 : IntKind.i64.wrap (K + 1) = K + 1 := w64 (by omega) (by omega)
    have wk2 : IntKind.i64.wrap (K + 1 + 1) = K + 1 + 1 := w64 (by omega) (by omega)
    simp (maxSteps := 4000000) [hd0, hfr, hout, hcl, hcd, delA_none, ha, ha_n, ha_d, ha_m, h0, hi', hx, ha1, hatx, List.getElem?_set, mkTo_length, setA_setA ha, List.set_set, arrAt_setA ha, wk1, wk2]
    have e2 : arrAt (setA H r q (.own 3 ((mkTo k rows i).set i [.v (.int .i64 (K)), .v (.int .i64 (K + 1)), .own 1 c2]))) r (q ++ [(i, 2)]) = some (1, c2) := arrAt_sub (arrAt_setA ha) (by simp [List.getElem?_set, mkTo_length, hi']; rfl) rfl
    skip
    refine (laws_markByteS _ lc2 oc2 (by omega) (by omega) e2 h0).useCK ?_
    have g2 : setA (setA H r q (.own 3 ((mkTo k rows i).set i [.v (.int .i64 (K)), .v (.int .i64 (K + 1)), .own 1 c2]))) r (q ++ [(i, 2)]) (.own 1 (mkRs (K + 1 + 1) c2)) = setA H r q (.own 3 ((mkTo k rows i).set i [.v (.int .i64 (K)), .v (.int .i64 (K + 1)), .own 1 (mkRs (K + 1 + 1) c2)])) := by
      rw [setA_sub (arrAt_setA ha) (by first | exact hat | (simp [List.getElem?_set, mkTo_length, hi']; rfl)) rfl, setA_setA ha]; simp [List.set_set]
    simp (maxSteps := 4000000) [hd0, hfr, hout, hcl, hcd, delA_none, ha, ha_n, ha_d, ha_m, h0, hi', hx, ha1, hatx, List.getElem?_set, mkTo_length, setA_setA ha, List.set_set, arrAt_setA ha, w1, hs, wk1, wk2, g2]
    exact LK.intro (m - 1) [0, 1, 5] [] (by omega) (by decide) (by simp (maxSteps := 4000000) [hd0, hfr, hout, hcl, hcd, delA_none, ha, ha_n, ha_d, ha_m]) ⟨i + 1, by omega, by simp [hs]; omega⟩
  · intro h
    have hcl' := CleanH_setA (q := q) (r := r) (c := .own 3 (mkRs k rows)) hcl (by rw [Clean_ownR]; exact mkRs_clean (hp _))
    simp (maxSteps := 4000000) [hd0, hfr, hout, hcl, hcd, delA_none, ha, ha_n, ha_d, ha_m, mkTo_all h, lvRs_all h, outH_setA, hcl']

theorem laws_markDisk (H : HH) {r q z i f} {rows : List (List Cell)} {pre seg post : List Cell} {k : Int} (ok : okDisk 1048576 seg) (hk : 0 ≤ k) (hk2 : k + lvS seg ≤ 4611686018427387904) (ha : arrAt H r q = some (z, rows)) (h0 : r.1 ≠ 0) (hi : rows[i]? = some (pre ++ seg ++ post)) (hf : f = pre.length) : PUpd Try.prog 25 [.a (ldcs r q i f seg), I k] H (I (k + lvS seg)) (setA H r q (.own z (rows.set i (pre ++ mkS k seg ++ post)))) := by
  obtain ⟨c0, c1, rfl, lc0, oc0, lc1, oc1⟩ := ok
  have pc0 : ∀ K, CleanRows K c0 := fun K x hx => okByteS_pure (oc0 x hx) K
  have pc1 : ∀ K, CleanRows K c1 := fun K x hx => okLoose_pure (oc1 x hx) K
  subst hf
  have hi' : i < rows.length := (List.getElem?_eq_some_iff.1 hi).1
  simp only [lvS] at hk2 ⊢
  simp only [mkS]
  refine PUpd.of [1, 2, 4] Try.func25 rfl (by simp [Try.f25]) ?_
  intro d hd0 hfr hcl hout
  have hcd : ∀ n q, CleanH (hit [((d, n), q)]) H := fun n q => hcl.at
  have ha_n : ∀ n, ¬ (d, n) = r := fun n => nm_ne (ne_of_arr hfr ha)
  have ha_d : ¬ r.1 = d := ne_of_arr hfr ha
  have ha_m : ∀ n, ¬ r = (d, n) := fun n => nm_ne' (ne_of_arr hfr ha)
  simp (maxSteps := 4000000) [hd0, hfr, hout, hcl, hcd, delA_none, ha, ha_n, ha_d, ha_m, Try.f25]
  have s0 := arrAt_sub ha hi (f := pre.length + 0) (z' := 1) (els := c0) (by simp)
  try simp only [Nat.add_zero, List.append_assoc, List.cons_append, List.nil_append] at s0
  refine (laws_markByteSS _ lc0 oc0 (by omega) (by omega) (by simp (maxSteps := 4000000) [hd0, hfr, hout, hcl, hcd, delA_none, ha, ha_n, ha_d, ha_m, s0]) h0).useCK ?_
  have e0 : setA (H) r (q ++ [(i, pre.length + 0)]) (.own 1 (mkRs (k) c0)) = setA H r q (.own z (rows.set i (pre ++ [.own 1 (mkRs (k) c0), .own 3 c1] ++ post))) := by
    rw [setA_sub ha hi (c0 := .own 1 c0) (by simp)]; simp
  try simp only [Nat.add_zero, List.append_assoc, List.cons_append, List.nil_append] at e0
  simp (maxSteps := 4000000) [hd0, hfr, hout, hcl, hcd, delA_none, ha, ha_n, ha_d, ha_m, e0]
  have s1 := arrAt_sub (arrAt_setA (z := z) (rows := rows.set i (pre ++ [.own 1 (mkRs (k) c0), .own 3 c1] ++ post)) ha) (i := i) (row := pre ++ [.own 1 (mkRs (k) c0), .own 3 c1] ++ post) (by simp [hi']) (f := pre.length + 1) (z' := 3) (els := c1) (by simp)
  try simp only [Nat.add_zero, List.append_assoc, List.cons_append, List.nil_append] at s1
  refine (laws_markLooseS _ lc1 oc1 (by omega) (by omega) (by simp (maxSteps := 4000000) [hd0, hfr, hout, hcl, hcd, delA_none, ha, ha_n, ha_d, ha_m, s1]) h0).useCK ?_
  have e1 : setA (setA H r q (.own z (rows.set i (pre ++ [.own 1 (mkRs (k) c0), .own 3 c1] ++ post)))) r (q ++ [(i, pre.length + 1)]) (.own 3 (mkRs (k + lvRs c0) c1)) = setA H r q (.own z (rows.set i (pre ++ [.own 1 (mkRs (k) c0), .own 3 (mkRs (k + lvRs c0) c1)] ++ post))) := by
    rw [setA_sub (arrAt_setA ha) (row := pre ++ [.own 1 (mkRs (k) c0), .own 3 c1] ++ post) (by simp [hi']) (c0 := .own 3 c1) (by simp), setA_setA ha]; simp
  try simp only [Nat.add_zero, List.append_assoc, List.cons_append, List.nil_append] at e1
  have hc' := CleanH_setA (q := q) (r := r) (c := .own z (rows.set i (pre ++ [.own 1 (mkRs (k) c0), .own 3 (mkRs (k + lvRs c0) c1)] ++ post))) hcl (by
    have h1 := (CleanH_arr hcl ha)
    rw [Clean_ownR] at h1 ⊢
    have h2 := h1 _ (List.mem_of_getElem? hi)
    simp [cells1_append] at h2
    refine (CleanRows_set h1 ?_).2 trivial
    simp [cells1_append, h2, mkRs_clean, pc0, pc1])
  try simp only [List.append_assoc, List.cons_append, List.nil_append] at hc'
  simp (maxSteps := 4000000) [hd0, hfr, hout, hcl, hcd, delA_none, ha, ha_n, ha_d, ha_m, e1, outH_setA, hc', mkS]
  try omega

theorem laws_markInt64S (H : HH) {r q} {rows : List (List Cell)} {k : Int} (hb : rows.length ≤ 1048576) (ok : ∀ x ∈ rows, okI64 x) (hk : 0 ≤ k) (hk2 : k + lvRs rows ≤ 4611686018427387904) (ha : arrAt H r q = some (1, rows)) (h0 : r.1 ≠ 0) : PUpd Try.prog 54 [.c (.sl r q 1 0 rows.length), I k] H (I (k + lvRs rows)) (setA H r q (.own 1 (mkRs k rows))) := by
  have hp : ∀ K, CleanRows K rows := fun K x hx => okI64_pure (ok x hx) K
  refine PUpd.of [0, 1, 4, 5, 9] Try.func54 rfl (by simp [Try.f54]) ?_
  intro d hd0 hfr hcl hout
  have hcd : ∀ n q, CleanH (hit [((d, n), q)]) H := fun n q => hcl.at
  have ha_n : ∀ n, ¬ (d, n) = r := fun n => nm_ne (ne_of_arr hfr ha)
  have ha_d : ¬ r.1 = d := ne_of_arr hfr ha
  have ha_m : ∀ n, ¬ r = (d, n) := fun n => nm_ne' (ne_of_arr hfr ha)
  simp (maxSteps := 4000000) [hd0, hfr, hout, hcl, hcd, delA_none, ha, ha_n, ha_d, ha_m, Try.f54]
  refine LoopK.intro (fun m s => ∃ i : Nat, i + m = rows.length ∧ s = ⟨[(0, .c (.sl r q 1 0 rows.length)), (1, I (k + lvRs (rows.take i))), (5, I i)], setA H r q (.own 1 (mkTo k rows i)), []⟩) (rows.length + 1)
    (LK.intro rows.length [0, 1, 5] [] (by omega) (by decide) (by simp (maxSteps := 4000000) [hd0, hfr, hout, hcl, hcd, delA_none, ha, ha_n, ha_d, ha_m]) ⟨0, by simp [lvRs, mkTo_zero, setA_self ha]⟩) ?_
  rintro m s ⟨i, him, rfl⟩
  have ha1 := arrAt_setA (z := 1) (rows := mkTo k rows i) ha
  simp (maxSteps := 4000000) [hd0, hfr, hout, hcl, hcd, delA_none, ha, ha_n, ha_d, ha_m]
  constructor
  · intro hi
    have hi' : i < rows.length := by omega
    have w1 : IntKind.i64.wrap ((i : Int) + 1) = i + 1 := w64 (by omega) (by omega)
    have hok := ok _ (List.getElem_mem hi')
    have hs := mkTo_set (k := k) hi'
    have ht := lvRs_take hi'
    have hat := mkTo_at (k := k) hi'
    have hle := lvRs_le (rows := rows) (i := i + 1)
    obtain ⟨K, hK⟩ : ∃ K : Int, K = k + lvRs (rows.take i) := ⟨_, rfl⟩
    obtain ⟨a0, hx⟩ := hok
    rw [← hK] at hs ⊢
    rw [hx] at hs ht hat
    simp only [mkR_cons, mkR_nil, mkC_v, mkC_own, mkV, lvC_v, lvC_own, Int.natCast_one] at hs
    simp only [lvR_cons, lvC_v, lvC_own, lvR_nil] at ht
    have hatx := ix_of hat
    have wk1 : IntKind.i64.wrap (K + 1) = K + 1 := w64 (by omega) (by omega)
    simp (maxSteps := 4000000) [hd0, hfr, hout, hcl, hcd, delA_none, ha, ha_n, ha_d, ha_m, h0, hi', hx, ha1, hatx, List.getElem?_set, mkTo_length, setA_setA ha, List.set_set, arrAt_setA ha, w1, hs, wk1]
    exact LK.intro (m - 1) [0, 1, 5] [] (by omega) (by decide) (by simp (maxSteps := 4000000) [hd0, hfr, hout, hcl, hcd, delA_none, ha, ha_n, ha_d, ha_m]) ⟨i + 1, by omega, by simp [hs]; omega⟩
  · intro h
    have hcl' := CleanH_setA (q := q) (r := r) (c := .own 1 (mkRs k rows)) hcl (by rw [Clean_ownR]; exact mkRs_clean (hp _))
    simp (maxSteps := 4000000) [hd0, hfr, hout, hcl, hcd, delA_none, ha, ha_n, ha_d, ha_m, mkTo_all h, lvRs_all h, outH_setA, hcl']

theorem laws_markIntsResult (H : HH) {r q z i f} {rows : List (List Cell)} {pre seg post : List Cell} {k : Int} (ok : okIntsResult 1048576 seg) (hk : 0 ≤ k) (hk2 : k + lvS seg ≤ 4611686018427387904) (ha : arrAt H r q = some (z, rows)) (h0 : r.1 ≠ 0) (hi : rows[i]? = some (pre ++ seg ++ post)) (hf : f = pre.length) : PUpd Try.prog 65 [.a (ldcs r q i f seg), I k] H (I (k + lvS seg)) (setA H r q (.own z (rows.set i (pre ++ mkS k seg ++ post)))) := by
  obtain ⟨a0, c1, rfl, lc1, oc1⟩ := ok
  have pc1 : ∀ K, CleanRows K c1 := fun K x hx => okI64_pure (oc1 x hx) K
  subst hf
  have hi' : i < rows.length := (List.getElem?_eq_some_iff.1 hi).1
  simp only [lvS] at hk2 ⊢
  simp only [mkS]
  refine PUpd.of [1, 2, 4] Try.func65 rfl (by simp [Try.f65]) ?_
  intro d hd0 hfr hcl hout
  have hcd : ∀ n q, CleanH (hit [((d, n), q)]) H := fun n q => hcl.at
  have ha_n : ∀ n, ¬ (d, n) = r := fun n => nm_ne (ne_of_arr hfr ha)
  have ha_d : ¬ r.1 = d := ne_of_arr hfr ha
  have ha_m : ∀ n, ¬ r = (d, n) := fun n => nm_ne' (ne_of_arr hfr ha)
  simp (maxSteps := 4000000) [hd0, hfr, hout, hcl, hcd, delA_none, ha, ha_n, ha_d, ha_m, Try.f65]
  have s0 := arrAt_sub ha hi (f := pre.length + 1) (z' := 1) (els := c1) (by simp)
  try simp only [Nat.add_zero, List.append_assoc, List.cons_append, List.nil_append] at s0
  refine (laws_markInt64S _ lc1 oc1 (by omega) (by omega) (by simp (maxSteps := 4000000) [hd0, hfr, hout, hcl, hcd, delA_none, ha, ha_n, ha_d, ha_m, s0]) h0).useCK ?_
  have e0 : setA (H) r (q ++ [(i, pre.length + 1)]) (.own 1 (mkRs (k) c1)) = setA H r q (.own z (rows.set i (pre ++ [.v (.int .i64 a0), .own 1 (mkRs (k) c1)] ++ post))) := by
    rw [setA_sub ha hi (c0 := .own 1 c1) (by simp)]; simp
  try simp only [Nat.add_zero, List.append_assoc, List.cons_append, List.nil_append] at e0
  have hc' := CleanH_setA (q := q) (r := r) (c := .own z (rows.set i (pre ++ [.v (.int .i64 a0), .own 1 (mkRs (k) c1)] ++ post))) hcl (by
    have h1 := (CleanH_arr hcl ha)
    rw [Clean_ownR] at h1 ⊢
    have h2 := h1 _ (List.mem_of_getElem? hi)
    simp [cells1_append] at h2
    refine (CleanRows_set h1 ?_).2 trivial
    simp [cells1_append, h2, mkRs_clean, pc1])
  try simp only [List.append_assoc, List.cons_append, List.nil_append] at hc'
  simp (maxSteps := 4000000) [hd0, hfr, hout, hcl, hcd, delA_none, ha, ha_n, ha_d, ha_m, e0, outH_setA, hc', mkS]
  try omega

theorem laws_szByteS (H : HH) {r q} {rows : List (List Cell)} {left : Int} (hn : rows.length ≤ 9223372036854775807) (h1 : 0 ≤ left) (h2 : left ≤ 1048576) (ok : ∀ x ∈ rows, okU8 x) : PFun Try.prog 120 [.c (.sl r q 1 0 rows.length), I left] H (I (szV (cntC (.own 1 rows)) left)) := by
  rw [cntC_own, cntRs_zero (fun x hx => okU8_cnt (ok x hx))]
  refine PFun.of [0, 1, 4, 10] Try.func120 rfl (by simp [Try.f120]) ?_
  intro d hd0 hfr hcl hout
  have hcd : ∀ n q, CleanH (hit [((d, n), q)]) H := fun n q => hcl.at
  simp (maxSteps := 4000000) [hd0, hfr, hout, hcl, hcd, delA_none, Try.f120]
  have w : IntKind.i64.wrap (left - rows.length) = left - rows.length := w64 (by omega) (by omega)
  simp (maxSteps := 4000000) [hd0, hfr, hout, hcl, hcd, delA_none, w, szV]
  omega

theorem laws_szByteSS (H : HH) {r q} {rows : List (List Cell)} {left : Int} (hn : rows.length ≤ 9223372036854775807) (h1 : 0 ≤ left) (h2 : left ≤ 1048576) (ok : ∀ x ∈ rows, okByteS 9223372036854775807 x) (ha : arrAt H r q = some (1, rows)) : PFun Try.prog 95 [.c (.sl r q 1 0 rows.length), I left] H (I (szV (cntC (.own 1 rows)) left)) := by
  rw [cntC_own]
  refine PFun.of [0, 1, 4, 5, 11, 15, 25] Try.func95 rfl (by simp [Try.f95]) ?_
  intro d hd0 hfr hcl hout
  have hcd : ∀ n q, CleanH (hit [((d, n), q)]) H := fun n q => hcl.at
  have ha_n : ∀ n, ¬ (d, n) = r := fun n => nm_ne (ne_of_arr hfr ha)
  have ha_d : ¬ r.1 = d := ne_of_arr hfr ha
  have ha_m : ∀ n, ¬ r = (d, n) := fun n => nm_ne' (ne_of_arr hfr ha)
  simp (maxSteps := 4000000) [hd0, hfr, hout, hcl, hcd, delA_none, ha, ha_n, ha_d, ha_m, Try.f95]
  have w : IntKind.i64.wrap (left - rows.length) = left - rows.length := w64 (by omega) (by omega)
  simp (maxSteps := 4000000) [hd0, hfr, hout, hcl, hcd, delA_none, ha, ha_n, ha_d, ha_m, w]
  refine ⟨fun h => by rw [szV_neg (by push_cast; omega)], fun h => ?_⟩
  refine LoopK.intro (fun m s => ∃ i : Nat, i + m = rows.length ∧ (rows.length : Int) + cntRs (rows.take i) ≤ left ∧ s = ⟨[(0, .c (.sl r q 1 0 rows.length)), (1, I (left - rows.length - cntRs (rows.take i))), (5, I i)], H, []⟩) (rows.length + 1)
    (LK.intro rows.length [0, 1, 5] [] (by omega) (by decide) (by simp (maxSteps := 4000000) [hd0, hfr, hout, hcl, hcd, delA_none, ha, ha_n, ha_d, ha_m]) ⟨0, by omega, by simp [cntRs]; omega, by simp [cntRs]⟩) ?_
  rintro m s ⟨i, him, hle, rfl⟩
  simp (maxSteps := 4000000) [hd0, hfr, hout, hcl, hcd, delA_none, ha, ha_n, ha_d, ha_m]
  constructor
  · intro hi
    have hi' : i < rows.length := by omega
    have w1 : IntKind.i64.wrap ((i : Int) + 1) = i + 1 := w64 (by omega) (by omega)
    have hx' := ok _ (List.getElem_mem hi')
    have ht := cntRs_take hi'
    have hle2 := cntRs_split (rows := rows) (i := i + 1)
    obtain ⟨c0, hx, lc0, oc0⟩ := hx'
    have hsub := arrAt_sub ha (List.getElem?_eq_getElem hi') (f := 0) (by rw [hx]; rfl)
    simp (maxSteps := 4000000) [hd0, hfr, hout, hcl, hcd, delA_none, ha, ha_n, ha_d, ha_m, hi', hx]
    refine (laws_szByteS _ lc0 (by omega) (by omega) oc0).useCK ?_
    rw [hx] at ht; simp only [cntR_cons, cntR_nil] at ht
    by_cases hc : (cntC (.own 1 c0) : Int) ≤ left - rows.length - cntRs (rows.take i)
    · rw [szV_pos hc]
      simp (maxSteps := 4000000) [hd0, hfr, hout, hcl, hcd, delA_none, ha, ha_n, ha_d, ha_m, w1]
      refine ⟨fun h => by omega, fun _ => ?_⟩
      exact LK.intro (m - 1) [0, 1, 5] [] (by omega) (by decide) (by simp (maxSteps := 4000000) [hd0, hfr, hout, hcl, hcd, delA_none, ha, ha_n, ha_d, ha_m]) ⟨i + 1, by omega, by omega, by simp; omega⟩
    · rw [szV_neg hc]
      simp (maxSteps := 4000000) [hd0, hfr, hout, hcl, hcd, delA_none, ha, ha_n, ha_d, ha_m]
      rw [szV_neg (by push_cast; omega)]
  · intro h
    rw [cntRs_all (by omega)] at hle ⊢
    try simp (maxSteps := 4000000) [hd0, hfr, hout, hcl, hcd, delA_none, ha, ha_n, ha_d, ha_m]
    rw [szV_pos (by push_cast; omega)]; push_cast; omega

theorem laws_szLoose (H : HH) {row cs : List Cell} {left : Int} (ok : okLoose 9223372036854775807 row) (hr : Refs H row cs) (h1 : 0 ≤ left) (h2 : left ≤ 1048576) : PFun Try.prog 154 [.a cs, I left] H (I (szV (cntR row) left)) := by
  obtain ⟨a0, a1, c2, rfl, lc2, oc2⟩ := ok
  simp only [Refs_v, Refs_own, Refs_nil] at hr
  obtain ⟨_, rfl, _, rfl, rc2, qc2, _, rfl, hc2, rfl⟩ := hr
  simp only [cntR_cons, cntR_nil, cntC_v, cntC_own]
  refine PFun.of [1, 2, 4, 10] Try.func154 rfl (by simp [Try.f154]) ?_
  intro d hd0 hfr hcl hout
  have hcd : ∀ n q, CleanH (hit [((d, n), q)]) H := fun n q => hcl.at
  have hc2_n : ∀ n, ¬ (d, n) = rc2 := fun n => nm_ne (ne_of_arr hfr hc2)
  have hc2_d : ¬ rc2.1 = d := ne_of_arr hfr hc2
  have hc2_m : ∀ n, ¬ rc2 = (d, n) := fun n => nm_ne' (ne_of_arr hfr hc2)
  simp (maxSteps := 4000000) [hd0, hfr, hout, hcl, hcd, delA_none, hc2, hc2_n, hc2_d, hc2_m, Try.f154]
  refine (laws_szByteS _ lc2 (by omega) (by omega) oc2).useCK ?_
  simp only [cntC_own]
  by_cases k1 : ((c2.length + cntRs c2 : Nat) : Int) ≤ left
  case neg => rw [szV_neg k1]; simp (maxSteps := 4000000) [hd0, hfr, hout, hcl, hcd, delA_none, hc2, hc2_n, hc2_d, hc2_m]; try rw [szV_neg (by omega)]
  rw [szV_pos k1]
  obtain ⟨L1, hL1⟩ : ∃ L : Int, L = left - ((c2.length + cntRs c2 : Nat) : Int) := ⟨_, rfl⟩
  rw [← hL1]
  simp (maxSteps := 4000000) [hd0, hfr, hout, hcl, hcd, delA_none, hc2, hc2_n, hc2_d, hc2_m]
  first | (intro h; omega) | (refine ⟨fun h => by omega, fun _ => ?_⟩; rw [szV_pos (by omega)]; omega)

theorem laws_szLooseS (H : HH) {r q} {rows : List (List Cell)} {left : Int} (hn : rows.length ≤ 9223372036854775807) (h1 : 0 ≤ left) (h2 : left ≤ 1048576) (ok : ∀ x ∈ rows, okLoose 9223372036854775807 x) (ha : arrAt H r q = some (3, rows)) : PFun Try.prog 96 [.c (.sl r q 3 0 rows.length), I left] H (I (szV (cntC (.own 3 rows)) left)) := by
  rw [cntC_own]
  refine PFun.of [0, 1, 4, 5, 11, 15, 25] Try.func96 rfl (by simp [Try.f96]) ?_
  intro d hd0 hfr hcl hout
  have hcd : ∀ n q, CleanH (hit [((d, n), q)]) H := fun n q => hcl.at
  have ha_n : ∀ n, ¬ (d, n) = r := fun n => nm_ne (ne_of_arr hfr ha)
  have ha_d : ¬ r.1 = d := ne_of_arr hfr ha
  have ha_m : ∀ n, ¬ r = (d, n) := fun n => nm_ne' (ne_of_arr hfr ha)
  simp (maxSteps := 4000000) [hd0, hfr, hout, hcl, hcd, delA_none, ha, ha_n, ha_d, ha_m, Try.f96]
  have w : IntKind.i64.wrap (left - rows.length) = left - rows.length := w64 (by omega) (by omega)
  simp (maxSteps := 4000000) [hd0, hfr, hout, hcl, hcd, delA_none, ha, ha_n, ha_d, ha_m, w]
  refine ⟨fun h => by rw [szV_neg (by push_cast; omega)], fun h => ?_⟩
  refine LoopK.intro (fun m s => ∃ i : Nat, i + m = rows.length ∧ (rows.length : Int) + cntRs (rows.take i) ≤ left ∧ s = ⟨[(0, .c (.sl r q 3 0 rows.length)), (1, I (left - rows.length - cntRs (rows.take i))), (5, I i)], H, []⟩) (rows.length + 1)
    (LK.intro rows.length [0, 1, 5] [] (by omega) (by decide) (by simp (maxSteps := 4000000) [hd0, hfr, hout, hcl, hcd, delA_none, ha, ha_n, ha_d, ha_m]) ⟨0, by omega, by simp [cntRs]; omega, by simp [cntRs]⟩) ?_
  rintro m s ⟨i, him, hle, rfl⟩
  simp (maxSteps := 4000000) [hd0, hfr, hout, hcl, hcd, delA_none, ha, ha_n, ha_d, ha_m]
  constructor
  · intro hi
    have hi' : i < rows.length := by omega
    have w1 : IntKind.i64.wrap ((i : Int) + 1) = i + 1 := w64 (by omega) (by omega)
    have hx' := ok _ (List.getElem_mem hi')
    have ht := cntRs_take hi'
    have hle2 := cntRs_split (rows := rows) (i := i + 1)
    have hok := hx'
    obtain ⟨a0, a1, c2, hx, lc2, oc2⟩ := hx'
    rw [hx] at hok
    have sc2 := arrAt_sub ha (List.getElem?_eq_getElem hi') (f := 2) (by rw [hx]; rfl)
    simp (maxSteps := 4000000) [hd0, hfr, hout, hcl, hcd, delA_none, ha, ha_n, ha_d, ha_m, hi', hx]
    refine (laws_szLoose _ hok (Refs_v.2 ⟨_, rfl, Refs_v.2 ⟨_, rfl, Refs_own.2 ⟨_, _, _, rfl, by simp (maxSteps := 4000000) [hd0, hfr, hout, hcl, hcd, delA_none, ha, ha_n, ha_d, ha_m, sc2], Refs_nil.2 rfl⟩⟩⟩) (by omega) (by omega)).useCK ?_
    rw [hx] at ht
    by_cases hc : (cntR [.v (.int .i64 a0), .v (.int .i64 a1), .own 1 c2] : Int) ≤ left - rows.length - cntRs (rows.take i)
    · rw [szV_pos hc]
      simp (maxSteps := 4000000) [hd0, hfr, hout, hcl, hcd, delA_none, ha, ha_n, ha_d, ha_m, w1]
      refine ⟨fun h => by omega, fun _ => ?_⟩
      exact LK.intro (m - 1) [0, 1, 5] [] (by omega) (by decide) (by simp (maxSteps := 4000000) [hd0, hfr, hout, hcl, hcd, delA_none, ha, ha_n, ha_d, ha_m]) ⟨i + 1, by omega, by omega, by simp; omega⟩
    · rw [szV_neg hc]
      simp (maxSteps := 4000000) [hd0, hfr, hout, hcl, hcd, delA_none, ha, ha_n, ha_d, ha_m]
      rw [szV_neg (by push_cast; omega)]
  · intro h
    rw [cntRs_all (by omega)] at hle ⊢
    try simp (maxSteps := 4000000) [hd0, hfr, hout, hcl, hcd, delA_none, ha, ha_n, ha_d, ha_m]
    rw [szV_pos (by push_cast; omega)]; push_cast; omega

theorem laws_szDisk (H : HH) {row cs : List Cell} {left : Int} (ok : okDisk 9223372036854775807 row) (hr : Refs H row cs) (h1 : 0 ≤ left) (h2 : left ≤ 1048576) : PFun Try.prog 19 [.a cs, I left] H (I (szV (cntR row) left)) := by
  obtain ⟨c0, c1, rfl, lc0, oc0, lc1, oc1⟩ := ok
  simp only [Refs_v, Refs_own, Refs_nil] at hr
  obtain ⟨rc0, qc0, _, rfl, hc0, rc1, qc1, _, rfl, hc1, rfl⟩ := hr
  simp only [cntR_cons, cntR_nil, cntC_v, cntC_own]
  refine PFun.of [1, 2, 4, 10, 16] Try.func19 rfl (by simp [Try.f19]) ?_
  intro d hd0 hfr hcl hout
  have hcd : ∀ n q, CleanH (hit [((d, n), q)]) H := fun n q => hcl.at
  have hc0_n : ∀ n, ¬ (d, n) = rc0 := fun n => nm_ne (ne_of_arr hfr hc0)
  have hc0_d : ¬ rc0.1 = d := ne_of_arr hfr hc0
  have hc0_m : ∀ n, ¬ rc0 = (d, n) := fun n => nm_ne' (ne_of_arr hfr hc0)
  have hc1_n : ∀ n, ¬ (d, n) = rc1 := fun n => nm_ne (ne_of_arr hfr hc1)
  have hc1_d : ¬ rc1.1 = d := ne_of_arr hfr hc1
  have hc1_m : ∀ n, ¬ rc1 = (d, n) := fun n => nm_ne' (ne_of_arr hfr hc1)
  simp (maxSteps := 4000000) [hd0, hfr, hout, hcl, hcd, delA_none, hc0, hc0_n, hc0_d, hc0_m, hc1, hc1_n, hc1_d, hc1_m, Try.f19]
  refine (laws_szByteSS _ lc0 (by omega) (by omega) oc0 (by simp (maxSteps := 4000000) [hd0, hfr, hout, hcl, hcd, delA_none, hc0, hc0_n, hc0_d, hc0_m, hc1, hc1_n, hc1_d, hc1_m])).useCK ?_
  simp only [cntC_own]
  by_cases k1 : ((c0.length + cntRs c0 : Nat) : Int) ≤ left
  case neg => rw [szV_neg k1]; simp (maxSteps := 4000000) [hd0, hfr, hout, hcl, hcd, delA_none, hc0, hc0_n, hc0_d, hc0_m, hc1, hc1_n, hc1_d, hc1_m]; try rw [szV_neg (by omega)]
  rw [szV_pos k1]
  obtain ⟨L1, hL1⟩ : ∃ L : Int, L = left - ((c0.length + cntRs c0 : Nat) : Int) := ⟨_, rfl⟩
  rw [← hL1]
  simp (maxSteps := 4000000) [hd0, hfr, hout, hcl, hcd, delA_none, hc0, hc0_n, hc0_d, hc0_m, hc1, hc1_n, hc1_d, hc1_m]
  refine ⟨fun h => by omega, fun _ => ?_⟩
  refine (laws_szLooseS _ lc1 (by omega) (by omega) oc1 (by simp (maxSteps := 4000000) [hd0, hfr, hout, hcl, hcd, delA_none, hc0, hc0_n, hc0_d, hc0_m, hc1, hc1_n, hc1_d, hc1_m])).useCK ?_
  simp only [cntC_own]
  by_cases k2 : ((c1.length + cntRs c1 : Nat) : Int) ≤ L1
  case neg => rw [szV_neg k2]; simp (maxSteps := 4000000) [hd0, hfr, hout, hcl, hcd, delA_none, hc0, hc0_n, hc0_d, hc0_m, hc1, hc1_n, hc1_d, hc1_m]; try rw [szV_neg (by omega)]
  rw [szV_pos k2]
  obtain ⟨L2, hL2⟩ : ∃ L : Int, L = L1 - ((c1.length + cntRs c1 : Nat) : Int) := ⟨_, rfl⟩
  rw [← hL2]
  simp (maxSteps := 4000000) [hd0, hfr, hout, hcl, hcd, delA_none, hc0, hc0_n, hc0_d, hc0_m, hc1, hc1_n, hc1_d, hc1_m]
  first | (intro h; omega) | (refine ⟨fun h => by omega, fun _ => ?_⟩; rw [szV_pos (by omega)]; omega)

theorem laws_toByteS (H : HH) {r q} {rows : List (List Cell)} (hb : rows.length ≤ 1048576) (ok : ∀ x ∈ rows, okU8 x) (ha : arrAt H r q = some (1, rows)) : PFun Try.prog 46 [.c (.sl r q 1 0 rows.length)] H (.c (.own 1 rows)) := by
  refine PFun.of [0, 2, 3, 4, 11] Try.func46 rfl (by simp [Try.f46]) ?_
  intro d hd0 hfr hcl hout
  have hcd : ∀ n q, CleanH (hit [((d, n), q)]) H := fun n q => hcl.at
  have ha_n : ∀ n, ¬ (d, n) = r := fun n => nm_ne (ne_of_arr hfr ha)
  have ha_d : ¬ r.1 = d := ne_of_arr hfr ha
  have ha_m : ∀ n, ¬ r = (d, n) := fun n => nm_ne' (ne_of_arr hfr ha)
  simp (maxSteps := 4000000) [hd0, hfr, hout, hcl, hcd, delA_none, ha, ha_n, ha_d, ha_m, Try.f46]
  have hp : ∀ K, CleanRows K rows := fun K x hx => okU8_pure (ok x hx) K
  refine ⟨by omega, ?_⟩
  refine LoopK.intro (fun m s => ∃ i : Nat, i + m = rows.length ∧ s = ⟨[(0, .c (.sl r q 1 0 rows.length)), (3, .c (.sl (d, 3) [] 1 0 rows.length)), (4, I i)], ((d, 3), .own 1 (upTo [.v (.int .u8 0)] rows i)) :: H, []⟩) (rows.length + 1)
    (LK.intro rows.length [0, 3, 4] [2] (by omega) (by decide) (by simp (maxSteps := 4000000) [hd0, hfr, hout, hcl, hcd, delA_none, ha, ha_n, ha_d, ha_m]) ⟨0, by simp [upTo_zero]⟩) ?_
  rintro m s ⟨i, him, rfl⟩
  simp (maxSteps := 4000000) [hd0, hfr, hout, hcl, hcd, delA_none, ha, ha_n, ha_d, ha_m]
  constructor
  · intro hi
    have hi' : i < rows.length := by omega
    have w1 : IntKind.i64.wrap ((i : Int) + 1) = i + 1 := w64 (by omega) (by omega)
    have hok := ok _ (List.getElem_mem hi')
    have hs := upTo_set (r := [.v (.int .u8 0)]) hi'
    have hat := upTo_at (r := [.v (.int .u8 0)]) hi'
    have hatx := ix_of hat
    obtain ⟨x0, hx⟩ := hok
    rw [hx] at hs
    simp (maxSteps := 4000000) [hd0, hfr, hout, hcl, hcd, delA_none, ha, ha_n, ha_d, ha_m, hi', hx, upTo_length, hatx, w1, hs]
    exact LK.intro (m - 1) [0, 3, 4] [] (by omega) (by decide) (by simp (maxSteps := 4000000) [hd0, hfr, hout, hcl, hcd, delA_none, ha, ha_n, ha_d, ha_m]) ⟨i + 1, by omega, by simp [hs]⟩
  · intro h
    simp (maxSteps := 4000000) [hd0, hfr, hout, hcl, hcd, delA_none, ha, ha_n, ha_d, ha_m, upTo_all h, hp]

theorem laws_toByteSS (H : HH) {r q} {rows : List (List Cell)} (hb : rows.length ≤ 1048576) (ok : ∀ x ∈ rows, okByteS 1048576 x) (ha : arrAt H r q = some (1, rows)) : PFun Try.prog 99 [.c (.sl r q 1 0 rows.length)] H (.c (.own 1 rows)) := by
  refine PFun.of [0, 2, 3, 4, 11] Try.func99 rfl (by simp [Try.f99]) ?_
  intro d hd0 hfr hcl hout
  have hcd : ∀ n q, CleanH (hit [((d, n), q)]) H := fun n q => hcl.at
  have ha_n : ∀ n, ¬ (d, n) = r := fun n => nm_ne (ne_of_arr hfr ha)
  have ha_d : ¬ r.1 = d := ne_of_arr hfr ha
  have ha_m : ∀ n, ¬ r = (d, n) := fun n => nm_ne' (ne_of_arr hfr ha)
  simp (maxSteps := 4000000) [hd0, hfr, hout, hcl, hcd, delA_none, ha, ha_n, ha_d, ha_m, Try.f99]
  have hp : ∀ K, CleanRows K rows := fun K x hx => okByteS_pure (ok x hx) K
  refine ⟨by omega, ?_⟩
  refine LoopK.intro (fun m s => ∃ i : Nat, i + m = rows.length ∧ s = ⟨[(0, .c (.sl r q 1 0 rows.length)), (3, .c (.sl (d, 3) [] 1 0 rows.length)), (4, I i)], ((d, 3), .own 1 (upTo [.own 1 []] rows i)) :: H, []⟩) (rows.length + 1)
    (LK.intro rows.length [0, 3, 4] [2] (by omega) (by decide) (by simp (maxSteps := 4000000) [hd0, hfr, hout, hcl, hcd, delA_none, ha, ha_n, ha_d, ha_m]) ⟨0, by simp [upTo_zero]⟩) ?_
  rintro m s ⟨i, him, rfl⟩
  simp (maxSteps := 4000000) [hd0, hfr, hout, hcl, hcd, delA_none, ha, ha_n, ha_d, ha_m]
  constructor
  · intro hi
    have hi' : i < rows.length := by omega
    have w1 : IntKind.i64.wrap ((i : Int) + 1) = i + 1 := w64 (by omega) (by omega)
    have hok := ok _ (List.getElem_mem hi')
    have hs := upTo_set (r := [.own 1 []]) hi'
    have hat := upTo_at (r := [.own 1 []]) hi'
    have hatx := ix_of hat
    have hok' := hok
    obtain ⟨c0, hx, lc0, oc0⟩ := hok
    have hsub := arrAt_sub ha (List.getElem?_eq_getElem hi') (f := 0) (by rw [hx]; rfl)
    rw [hx] at hs
    have pc0 : ∀ K, CleanRows K c0 := fun K x hx => okU8_pure (oc0 x hx) K
    simp (maxSteps := 4000000) [hd0, hfr, hout, hcl, hcd, delA_none, ha, ha_n, ha_d, ha_m, hi', hx]
    refine (laws_toByteS _ lc0 oc0 (by simp (maxSteps := 4000000) [hd0, hfr, hout, hcl, hcd, delA_none, ha, ha_n, ha_d, ha_m, hsub])).useCK ?_
    simp (maxSteps := 4000000) [hd0, hfr, hout, hcl, hcd, delA_none, ha, ha_n, ha_d, ha_m, hi', hx, hatx, upTo_length, w1, hs, hp, CleanRows_upTo, pc0]
    exact LK.intro (m - 1) [0, 3, 4] [] (by omega) (by decide) (by simp (maxSteps := 4000000) [hd0, hfr, hout, hcl, hcd, delA_none, ha, ha_n, ha_d, ha_m]) ⟨i + 1, by omega, by simp [hs]⟩
  · intro h
    simp (maxSteps := 4000000) [hd0, hfr, hout, hcl, hcd, delA_none, ha, ha_n, ha_d, ha_m, upTo_all h, hp]

theorem laws_toLoose (H : HH) {row cs : List Cell} (ok : okLoose 1048576 row) (hr : Refs H row cs) : PFun Try.prog 155 [.a cs] H (.a row) := by
  obtain ⟨a0, a1, c2, rfl, lc2, oc2⟩ := ok
  simp only [Refs_v, Refs_own, Refs_nil] at hr
  obtain ⟨_, rfl, _, rfl, rc2, qc2, _, rfl, hc2, rfl⟩ := hr
  have pc2 : ∀ K, CleanRows K c2 := fun K x hx => okU8_pure (oc2 x hx) K
  refine PFun.of [1, 2, 3] Try.func155 rfl (by simp [Try.f155]) ?_
  intro d hd0 hfr hcl hout
  have hcd : ∀ n q, CleanH (hit [((d, n), q)]) H := fun n q => hcl.at
  have hc2_n : ∀ n, ¬ (d, n) = rc2 := fun n => nm_ne (ne_of_arr hfr hc2)
  have hc2_d : ¬ rc2.1 = d := ne_of_arr hfr hc2
  have hc2_m : ∀ n, ¬ rc2 = (d, n) := fun n => nm_ne' (ne_of_arr hfr hc2)
  simp (maxSteps := 4000000) [hd0, hfr, hout, hcl, hcd, delA_none, hc2, hc2_n, hc2_d, hc2_m, Try.f155]
  refine (laws_toByteS _ lc2 oc2 (by simp (maxSteps := 4000000) [hd0, hfr, hout, hcl, hcd, delA_none, hc2, hc2_n, hc2_d, hc2_m])).useCK ?_
  simp (maxSteps := 4000000) [hd0, hfr, hout, hcl, hcd, delA_none, hc2, hc2_n, hc2_d, hc2_m, pc2]

theorem laws_toLooseS (H : HH) {r q} {rows : List (List Cell)} (hb : rows.length ≤ 1048576) (ok : ∀ x ∈ rows, okLoose 1048576 x) (ha : arrAt H r q = some (3, rows)) : PFun Try.prog 100 [.c (.sl r q 3 0 rows.length)] H (.c (.own 3 rows)) := by
  refine PFun.of [0, 2, 3, 4, 11] Try.func100 rfl (by simp [Try.f100]) ?_
  intro d hd0 hfr hcl hout
  have hcd : ∀ n q, CleanH (hit [((d, n), q)]) H := fun n q => hcl.at
  have ha_n : ∀ n, ¬ (d, n) = r := fun n => nm_ne (ne_of_arr hfr ha)
  have ha_d : ¬ r.1 = d := ne_of_arr hfr ha
  have ha_m : ∀ n, ¬ r = (d, n) := fun n => nm_ne' (ne_of_arr hfr ha)
  simp (maxSteps := 4000000) [hd0, hfr, hout, hcl, hcd, delA_none, ha, ha_n, ha_d, ha_m, Try.f100]
  have hp : ∀ K, CleanRows K rows := fun K x hx => okLoose_pure (ok x hx) K
  refine ⟨by omega, ?_⟩
  refine LoopK.intro (fun m s => ∃ i : Nat, i + m = rows.length ∧ s = ⟨[(0, .c (.sl r q 3 0 rows.length)), (3, .c (.sl (d, 3) [] 3 0 rows.length)), (4, I i)], ((d, 3), .own 3 (upTo [.v (.int .i64 0), .v (.int .i64 0), .own 1 []] rows i)) :: H, []⟩) (rows.length + 1)
    (LK.intro rows.length [0, 3, 4] [2] (by omega) (by decide) (by simp (maxSteps := 4000000) [hd0, hfr, hout, hcl, hcd, delA_none, ha, ha_n, ha_d, ha_m]) ⟨0, by simp [upTo_zero]⟩) ?_
  rintro m s ⟨i, him, rfl⟩
  simp (maxSteps := 4000000) [hd0, hfr, hout, hcl, hcd, delA_none, ha, ha_n, ha_d, ha_m]
  constructor
  · intro hi
    have hi' : i < rows.length := by omega
    have w1 : IntKind.i64.wrap ((i : Int) + 1) = i + 1 := w64 (by omega) (by omega)
    have hok := ok _ (List.getElem_mem hi')
    have hs := upTo_set (r := [.v (.int .i64 0), .v (.int .i64 0), .own 1 []]) hi'
    have hat := upTo_at (r := [.v (.int .i64 0), .v (.int .i64 0), .own 1 []]) hi'
    have hatx := ix_of hat
    have hok' := hok
    obtain ⟨a0, a1, c2, hx, lc2, oc2⟩ := hok
    rw [hx] at hok' hs
    have pc2 : ∀ K, CleanRows K c2 := fun K x hx => okU8_pure (oc2 x hx) K
    have sc2 := arrAt_sub ha (List.getElem?_eq_getElem hi') (f := 2) (by rw [hx]; rfl)
    simp (maxSteps := 4000000) [hd0, hfr, hout, hcl, hcd, delA_none, ha, ha_n, ha_d, ha_m, hi', hx]
    refine (laws_toLoose _ hok' (Refs_v.2 ⟨_, rfl, Refs_v.2 ⟨_, rfl, Refs_own.2 ⟨_, _, _, rfl, by simp (maxSteps := 4000000) [hd0, hfr, hout, hcl, hcd, delA_none, ha, ha_n, ha_d, ha_m, sc2], Refs_nil.2 rfl⟩⟩⟩)).useCK ?_
    simp (maxSteps := 4000000) [hd0, hfr, hout, hcl, hcd, delA_none, ha, ha_n, ha_d, ha_m, hi', hx, hatx, upTo_length, w1, hs, hp, CleanRows_upTo, pc2]
    exact LK.intro (m - 1) [0, 3, 4] [] (by omega) (by decide) (by simp (maxSteps := 4000000) [hd0, hfr, hout, hcl, hcd, delA_none, ha, ha_n, ha_d, ha_m]) ⟨i + 1, by omega, by simp [hs]⟩
  · intro h
    simp (maxSteps := 4000000) [hd0, hfr, hout, hcl, hcd, delA_none, ha, ha_n, ha_d, ha_m, upTo_all h, hp]

theorem laws_toDisk (H : HH) {row cs : List Cell} (ok : okDisk 1048576 row) (hr : Refs H row cs) : PFun Try.prog 21 [.a cs] H (.a row) := by
  obtain ⟨c0, c1, rfl, lc0, oc0, lc1, oc1⟩ := ok
  simp only [Refs_v, Refs_own, Refs_nil] at hr
  obtain ⟨rc0, qc0, _, rfl, hc0, rc1, qc1, _, rfl, hc1, rfl⟩ := hr
  have pc0 : ∀ K, CleanRows K c0 := fun K x hx => okByteS_pure (oc0 x hx) K
  have pc1 : ∀ K, CleanRows K c1 := fun K x hx => okLoose_pure (oc1 x hx) K
  refine PFun.of [1, 2, 3] Try.func21 rfl (by simp [Try.f21]) ?_
  intro d hd0 hfr hcl hout
  have hcd : ∀ n q, CleanH (hit [((d, n), q)]) H := fun n q => hcl.at
  have hc0_n : ∀ n, ¬ (d, n) = rc0 := fun n => nm_ne (ne_of_arr hfr hc0)
  have hc0_d : ¬ rc0.1 = d := ne_of_arr hfr hc0
  have hc0_m : ∀ n, ¬ rc0 = (d, n) := fun n => nm_ne' (ne_of_arr hfr hc0)
  have hc1_n : ∀ n, ¬ (d, n) = rc1 := fun n => nm_ne (ne_of_arr hfr hc1)
  have hc1_d : ¬ rc1.1 = d := ne_of_arr hfr hc1
  have hc1_m : ∀ n, ¬ rc1 = (d, n) := fun n => nm_ne' (ne_of_arr hfr hc1)
  simp (maxSteps := 4000000) [hd0, hfr, hout, hcl, hcd, delA_none, hc0, hc0_n, hc0_d, hc0_m, hc1, hc1_n, hc1_d, hc1_m, Try.f21]
  refine (laws_toByteSS _ lc0 oc0 (by simp (maxSteps := 4000000) [hd0, hfr, hout, hcl, hcd, delA_none, hc0, hc0_n, hc0_d, hc0_m, hc1, hc1_n, hc1_d, hc1_m])).useCK ?_
  simp (maxSteps := 4000000) [hd0, hfr, hout, hcl, hcd, delA_none, hc0, hc0_n, hc0_d, hc0_m, hc1, hc1_n, hc1_d, hc1_m, pc0, pc1]
  refine (laws_toLooseS _ lc1 oc1 (by simp (maxSteps := 4000000) [hd0, hfr, hout, hcl, hcd, delA_none, hc0, hc0_n, hc0_d, hc0_m, hc1, hc1_n, hc1_d, hc1_m])).useCK ?_
  simp (maxSteps := 4000000) [hd0, hfr, hout, hcl, hcd, delA_none, hc0, hc0_n, hc0_d, hc0_m, hc1, hc1_n, hc1_d, hc1_m, pc0, pc1]

end Go.Proofs.Ythejobdlfomcjaa


namespace Go.Px
set_option linter.unusedVariables false
def encI (n : Int) : List Cell := [.v (.int .i64 n)]
def encU8 (n : Int) : List Cell := [.v (.int .u8 n)]
def encB (n : Bool) : List Cell := [.v (.bool n)]
def encS {α : Type} (z : Nat) (e : α → List Cell) (l : List α) : List Cell := [.own z (l.map e)]
theorem encI_ok (n : Int) : okI64 (encI n) := ⟨n, rfl⟩
theorem encU8_ok (n : Int) : okU8 (encU8 n) := ⟨n, rfl⟩
theorem encS_to {α : Type} {z B : Nat} {e : α → List Cell} {y : List α} {p : List Cell → Prop} (h : ∃ c, encS z e y = [.own z c] ∧ c.length ≤ B ∧ ∀ x ∈ c, p x) : y.length ≤ B := by
  obtain ⟨c, h1, h2, h3⟩ := h
  simp only [encS, List.cons.injEq, Cell.own.injEq, and_true, true_and] at h1
  subst h1; simpa using h2
section
variable {K : Cell → Prop} {n : Int} {b : Bool} {α : Type} {z : Nat} {e : α → List Cell} {l : List α}
@[simp] theorem encI_clean : cells1 K (encI n) ↔ True := by simp [encI, Clean.v]
@[simp] theorem encU8_clean : cells1 K (encU8 n) ↔ True := by simp [encU8, Clean.v]
@[simp] theorem encB_clean : cells1 K (encB b) ↔ True := by simp [encB, Clean.v]
@[simp] theorem encS_clean : cells1 K (encS z e l) ↔ ∀ x ∈ l, cells1 K (e x) := by simp [encS]
end
end Go.Px

namespace Go.Proofs.Ythejobdlfomcjaa
open Go Go.Px Go.RowKit Go.Proofs
set_option linter.unnecessarySimpa false
set_option linter.unusedVariables false
set_option linter.unusedSimpArgs false
set_option maxRecDepth 100000
attribute [-simp] Int.not_le Int.not_lt
structure DCell where
  key : Int
  value : Int
def DCell.enc (x : DCell) : List Cell := [.v (.int .i64 x.key), .v (.int .i64 x.value)]
@[simp] theorem DCell.pure (x : DCell) : ∀ K, cells1 K x.enc := by intro K; simp [DCell.enc, Clean.v]
def DCell.wf (x : DCell) : Prop := (Lit.int .i64 x.key).wf = true ∧ (Lit.int .i64 x.value).wf = true
theorem DCell.ok (B : Nat) (x : DCell) : okCell B x.enc := ⟨x.key, x.value, rfl⟩
structure DLoose where
  page : Int
  part : Int
  data : List (Int)
def DLoose.enc (x : DLoose) : List Cell := [.v (.int .i64 x.page), .v (.int .i64 x.part), .own 1 (x.data.map encU8)]
@[simp] theorem DLoose.pure (x : DLoose) : ∀ K, cells1 K x.enc := by intro K; simp [DLoose.enc, Clean.v, encU8]
def DLoose.wf (x : DLoose) : Prop := (Lit.int .i64 x.page).wf = true ∧ (Lit.int .i64 x.part).wf = true ∧ (x.data.length ≤ maxLen ∧ ∀ y ∈ x.data, (Lit.int .u8 y).wf = true)
def DLoose.le (B : Nat) (x : DLoose) : Prop := (x.data.length ≤ B)
theorem DLoose.wf_le {x : DLoose} (h : x.wf) : x.le 9223372036854775807 := (h.2.2).1
theorem DLoose.ok {B : Nat} {x : DLoose} : okLoose B x.enc ↔ DLoose.le B x := by
  constructor
  · rintro ⟨a0, a1, c2, h, lc2, oc2⟩
    simp only [DLoose.enc, List.cons.injEq, Cell.v.injEq, Cell.own.injEq, Value.int.injEq, Value.bool.injEq, true_and, and_true] at h
    obtain ⟨rfl, rfl, rfl⟩ := h
    simp only [DLoose.le]; exact (by simpa using lc2)
  · intro h
    simp only [DLoose.le] at h; have lc2 := h; exact ⟨x.page, x.part, (x.data.map encU8), rfl, (by simpa using lc2), (by intro r hr; obtain ⟨y, hy, rfl⟩ := List.mem_map.1 hr; exact ⟨y, rfl⟩)⟩
structure DDisk where
  pages : List (List (Int))
  loose : List (DLoose)
def DDisk.enc (x : DDisk) : List Cell := [.own 1 (x.pages.map (encS 1 encU8)), .own 3 (x.loose.map DLoose.enc)]
@[simp] theorem DDisk.pure (x : DDisk) : ∀ K, cells1 K x.enc := by intro K; simp [DDisk.enc, Clean.v, DLoose.pure, encS, encU8]
def DDisk.wf (x : DDisk) : Prop := (x.pages.length ≤ maxLen ∧ ∀ y ∈ x.pages, (y.length ≤ maxLen ∧ ∀ z ∈ y, (Lit.int .u8 z).wf = true)) ∧ (x.loose.length ≤ maxLen ∧ ∀ y ∈ x.loose, y.wf)
def DDisk.le (B : Nat) (x : DDisk) : Prop := (x.pages.length ≤ B ∧ ∀ y ∈ x.pages, (y.length ≤ B)) ∧ (x.loose.length ≤ B ∧ ∀ y ∈ x.loose, DLoose.le B y)
theorem DDisk.wf_le {x : DDisk} (h : x.wf) : x.le 9223372036854775807 := ⟨⟨(h.1).1, fun y hy => (((h.1).2 y hy)).1⟩, ⟨(h.2).1, fun y hy => DLoose.wf_le (((h.2).2 y hy))⟩⟩
theorem DDisk.ok {B : Nat} {x : DDisk} : okDisk B x.enc ↔ DDisk.le B x := by
  constructor
  · rintro ⟨c0, c1, h, lc0, oc0, lc1, oc1⟩
    simp only [DDisk.enc, List.cons.injEq, Cell.v.injEq, Cell.own.injEq, Value.int.injEq, Value.bool.injEq, true_and, and_true] at h
    obtain ⟨rfl, rfl⟩ := h
    simp only [DDisk.le]; exact ⟨⟨by simpa using lc0, fun y hy => encS_to (oc0 _ (List.mem_map.2 ⟨y, hy, rfl⟩))⟩, ⟨by simpa using lc1, fun y hy => DLoose.ok.1 (oc1 _ (List.mem_map.2 ⟨y, hy, rfl⟩))⟩⟩
  · intro h
    simp only [DDisk.le] at h; obtain ⟨⟨lc0, mc0⟩, ⟨lc1, mc1⟩⟩ := h; exact ⟨(x.pages.map (encS 1 encU8)), (x.loose.map DLoose.enc), rfl, (by simpa using lc0), (by intro r hr; obtain ⟨y, hy, rfl⟩ := List.mem_map.1 hr; exact ⟨_, rfl, by simpa using mc0 y hy, fun r hr => by obtain ⟨z, hz, rfl⟩ := List.mem_map.1 hr; exact ⟨z, rfl⟩⟩), (by simpa using lc1), (by intro r hr; obtain ⟨y, hy, rfl⟩ := List.mem_map.1 hr; exact DLoose.ok.2 (mc1 y hy))⟩
structure DDiskResult where
  code : Int
  disk : DDisk
def DDiskResult.enc (x : DDiskResult) : List Cell := [.v (.int .i64 x.code), .own 1 (x.disk.pages.map (encS 1 encU8)), .own 3 (x.disk.loose.map DLoose.enc)]
@[simp] theorem DDiskResult.pure (x : DDiskResult) : ∀ K, cells1 K x.enc := by intro K; simp [DDiskResult.enc, Clean.v, DLoose.pure, encS, encU8]
def DDiskResult.wf (x : DDiskResult) : Prop := (Lit.int .i64 x.code).wf = true ∧ x.disk.wf
def DDiskResult.le (B : Nat) (x : DDiskResult) : Prop := DDisk.le B x.disk
theorem DDiskResult.wf_le {x : DDiskResult} (h : x.wf) : x.le 9223372036854775807 := DDisk.wf_le (h.2)
theorem DDiskResult.ok {B : Nat} {x : DDiskResult} : okDiskResult B x.enc ↔ DDiskResult.le B x := by
  constructor
  · rintro ⟨a0, c1, c2, h, lc1, oc1, lc2, oc2⟩
    simp only [DDiskResult.enc, List.cons.injEq, Cell.v.injEq, Cell.own.injEq, Value.int.injEq, Value.bool.injEq, true_and, and_true] at h
    obtain ⟨rfl, rfl, rfl⟩ := h
    simp only [DDiskResult.le, DDisk.le]; exact ⟨⟨by simpa using lc1, fun y hy => encS_to (oc1 _ (List.mem_map.2 ⟨y, hy, rfl⟩))⟩, ⟨by simpa using lc2, fun y hy => DLoose.ok.1 (oc2 _ (List.mem_map.2 ⟨y, hy, rfl⟩))⟩⟩
  · intro h
    simp only [DDiskResult.le, DDisk.le] at h; obtain ⟨⟨lc1, mc1⟩, ⟨lc2, mc2⟩⟩ := h; exact ⟨x.code, (x.disk.pages.map (encS 1 encU8)), (x.disk.loose.map DLoose.enc), rfl, (by simpa using lc1), (by intro r hr; obtain ⟨y, hy, rfl⟩ := List.mem_map.1 hr; exact ⟨_, rfl, by simpa using mc1 y hy, fun r hr => by obtain ⟨z, hz, rfl⟩ := List.mem_map.1 hr; exact ⟨z, rfl⟩⟩), (by simpa using lc2), (by intro r hr; obtain ⟨y, hy, rfl⟩ := List.mem_map.1 hr; exact DLoose.ok.2 (mc2 y hy))⟩
structure DIntsResult where
  code : Int
  list : List (Int)
def DIntsResult.enc (x : DIntsResult) : List Cell := [.v (.int .i64 x.code), .own 1 (x.list.map encI)]
@[simp] theorem DIntsResult.pure (x : DIntsResult) : ∀ K, cells1 K x.enc := by intro K; simp [DIntsResult.enc, Clean.v, encI]
def DIntsResult.wf (x : DIntsResult) : Prop := (Lit.int .i64 x.code).wf = true ∧ (x.list.length ≤ maxLen ∧ ∀ y ∈ x.list, (Lit.int .i64 y).wf = true)
def DIntsResult.le (B : Nat) (x : DIntsResult) : Prop := (x.list.length ≤ B)
theorem DIntsResult.wf_le {x : DIntsResult} (h : x.wf) : x.le 9223372036854775807 := (h.2).1
theorem DIntsResult.ok {B : Nat} {x : DIntsResult} : okIntsResult B x.enc ↔ DIntsResult.le B x := by
  constructor
  · rintro ⟨a0, c1, h, lc1, oc1⟩
    simp only [DIntsResult.enc, List.cons.injEq, Cell.v.injEq, Cell.own.injEq, Value.int.injEq, Value.bool.injEq, true_and, and_true] at h
    obtain ⟨rfl, rfl⟩ := h
    simp only [DIntsResult.le]; exact (by simpa using lc1)
  · intro h
    simp only [DIntsResult.le] at h; have lc1 := h; exact ⟨x.code, (x.list.map encI), rfl, (by simpa using lc1), (by intro r hr; obtain ⟨y, hy, rfl⟩ := List.mem_map.1 hr; exact ⟨y, rfl⟩)⟩
structure DPage where
  id_ : Int
  lsn : Int
  cells : List (DCell)
def DPage.enc (x : DPage) : List Cell := [.v (.int .i64 x.id_), .v (.int .i64 x.lsn), .own 2 (x.cells.map DCell.enc)]
@[simp] theorem DPage.pure (x : DPage) : ∀ K, cells1 K x.enc := by intro K; simp [DPage.enc, Clean.v, DCell.pure]
def DPage.wf (x : DPage) : Prop := (Lit.int .i64 x.id_).wf = true ∧ (Lit.int .i64 x.lsn).wf = true ∧ (x.cells.length ≤ maxLen ∧ ∀ y ∈ x.cells, y.wf)
def DPage.le (B : Nat) (x : DPage) : Prop := (x.cells.length ≤ B)
theorem DPage.wf_le {x : DPage} (h : x.wf) : x.le 9223372036854775807 := (h.2.2).1
theorem DPage.ok {B : Nat} {x : DPage} : okPage B x.enc ↔ DPage.le B x := by
  constructor
  · rintro ⟨a0, a1, c2, h, lc2, oc2⟩
    simp only [DPage.enc, List.cons.injEq, Cell.v.injEq, Cell.own.injEq, Value.int.injEq, Value.bool.injEq, true_and, and_true] at h
    obtain ⟨rfl, rfl, rfl⟩ := h
    simp only [DPage.le]; exact (by simpa using lc2)
  · intro h
    simp only [DPage.le] at h; have lc2 := h; exact ⟨x.id_, x.lsn, (x.cells.map DCell.enc), rfl, (by simpa using lc2), (by intro r hr; obtain ⟨y, hy, rfl⟩ := List.mem_map.1 hr; exact DCell.ok _ y)⟩
structure DPageResult where
  code : Int
  page : DPage
def DPageResult.enc (x : DPageResult) : List Cell := [.v (.int .i64 x.code), .v (.int .i64 x.page.id_), .v (.int .i64 x.page.lsn), .own 2 (x.page.cells.map DCell.enc)]
@[simp] theorem DPageResult.pure (x : DPageResult) : ∀ K, cells1 K x.enc := by intro K; simp [DPageResult.enc, Clean.v, DCell.pure]
def DPageResult.wf (x : DPageResult) : Prop := (Lit.int .i64 x.code).wf = true ∧ x.page.wf
def DPageResult.le (B : Nat) (x : DPageResult) : Prop := DPage.le B x.page
theorem DPageResult.wf_le {x : DPageResult} (h : x.wf) : x.le 9223372036854775807 := DPage.wf_le (h.2)
theorem DPageResult.ok {B : Nat} {x : DPageResult} : okPageResult B x.enc ↔ DPageResult.le B x := by
  constructor
  · rintro ⟨a0, a1, a2, c3, h, lc3, oc3⟩
    simp only [DPageResult.enc, List.cons.injEq, Cell.v.injEq, Cell.own.injEq, Value.int.injEq, Value.bool.injEq, true_and, and_true] at h
    obtain ⟨rfl, rfl, rfl, rfl⟩ := h
    simp only [DPageResult.le, DPage.le]; exact (by simpa using lc3)
  · intro h
    simp only [DPageResult.le, DPage.le] at h; have lc3 := h; exact ⟨x.code, x.page.id_, x.page.lsn, (x.page.cells.map DCell.enc), rfl, (by simpa using lc3), (by intro r hr; obtain ⟨y, hy, rfl⟩ := List.mem_map.1 hr; exact DCell.ok _ y)⟩
theorem op185 : Px.Op Try.prog 185 3 DLoose.enc DLoose.wf := by
  refine Px.Op.struct (fs := #[{ name := "Page", type := 2, offset := 0, embedded := false, tag := "", pkgPath := "", byteOffset := 0 }, { name := "Part", type := 2, offset := 1, embedded := false, tag := "", pkgPath := "", byteOffset := 8 }, { name := "Data", type := 53, offset := 2, embedded := false, tag := "", pkgPath := "", byteOffset := 16 }]) (fun p : (Int) × (Int) × (List (Int)) => (⟨p.1, p.2.1, p.2.2⟩ : DLoose)) (by kernel_rfl) (by kernel_rfl) ?_ ?_ (OpF.cons (off := 0) (off' := 1) (n := 1) (n' := 2) rfl (by kernel_rfl) (Px.Op.int (t := 2) (k := .i64) (by kernel_rfl)) rfl (OpF.cons (off := 1) (off' := 2) (n := 1) (n' := 1) rfl (by kernel_rfl) (Px.Op.int (t := 2) (k := .i64) (by kernel_rfl)) rfl (OpF.one (off := 2) (n := 1) rfl (by kernel_rfl) (Px.Op.slice (t := 53) (e := 5) (enc := encU8) (by kernel_rfl) (by kernel_rfl) (by decide) (Px.Op.int (t := 5) (k := .u8) (by kernel_rfl))))))
  · exact fun p => rfl
  · exact fun p h => h
theorem op39 : Px.Op Try.prog 39 2 DDisk.enc DDisk.wf := by
  refine Px.Op.struct (fs := #[{ name := "Pages", type := 36, offset := 0, embedded := false, tag := "", pkgPath := "", byteOffset := 0 }, { name := "Loose", type := 37, offset := 1, embedded := false, tag := "", pkgPath := "", byteOffset := 24 }]) (fun p : (List (List (Int))) × (List (DLoose)) => (⟨p.1, p.2⟩ : DDisk)) (by kernel_rfl) (by kernel_rfl) ?_ ?_ (OpF.cons (off := 0) (off' := 1) (n := 1) (n' := 1) rfl (by kernel_rfl) (Px.Op.slice (t := 36) (e := 53) (enc := (encS 1 encU8)) (by kernel_rfl) (by kernel_rfl) (by decide) (Px.Op.slice (t := 53) (e := 5) (enc := encU8) (by kernel_rfl) (by kernel_rfl) (by decide) (Px.Op.int (t := 5) (k := .u8) (by kernel_rfl)))) rfl (OpF.one (off := 1) (n := 1) rfl (by kernel_rfl) (Px.Op.slice (t := 37) (e := 185) (enc := DLoose.enc) (by kernel_rfl) (by kernel_rfl) (by decide) op185)))
  · exact fun p => rfl
  · exact fun p h => h
end Go.Proofs.Ythejobdlfomcjaa


namespace Go.Proofs.Ythejobdlfomcjaa
open Go Go.Px Go.RowKit Go.Proofs
set_option linter.unnecessarySimpa false
set_option linter.unusedVariables false
set_option linter.unusedSimpArgs false
set_option maxRecDepth 100000
attribute [-simp] Int.not_le Int.not_lt
def inR (v lo hi : Int) : Bool := decide (lo ≤ v) && decide (v ≤ hi)
theorem spec_l1In (H : HH) (v lo hi : Int) : PFun Try.prog 79 [I v, I lo, I hi] H (B (inR v lo hi)) := by
  refine PFun.of [0, 1, 2, 6] Try.func79 rfl (by simp [Try.f79]) ?_
  intro d hd0 hfr hcl hout
  have hcd : ∀ n q, CleanH (hit [((d, n), q)]) H := fun n q => hcl.at
  simp (maxSteps := 4000000) [hd0, hfr, hout, hcl, hcd, delA_none, Try.f79]
  constructor <;> intros <;> simp_all [inR]
theorem impl_within (H : HH) (v lo hi : Int) : PFun Try.prog 88 [I v, I lo, I hi] H (B (inR v lo hi)) := by
  refine PFun.of [0, 1, 2, 6] Try.func88 rfl (by simp [Try.f88]) ?_
  intro d hd0 hfr hcl hout
  have hcd : ∀ n q, CleanH (hit [((d, n), q)]) H := fun n q => hcl.at
  simp (maxSteps := 4000000) [hd0, hfr, hout, hcl, hcd, delA_none, Try.f88]
  constructor <;> intros <;> simp_all [inR]
theorem impl_DiskFault_1 (H : HH) {r q n} : PFun Try.prog 139 [.c (.sl r q 1 0 n)] H (B (decide (n ≠ 48))) := by
  refine PFun.of [0, 2] Try.func139 rfl (by simp [Try.f139]) ?_
  intro d hd0 hfr hcl hout
  have hcd : ∀ n q, CleanH (hit [((d, n), q)]) H := fun n q => hcl.at
  simp (maxSteps := 4000000) [hd0, hfr, hout, hcl, hcd, delA_none, Try.f139]
  omega
theorem impl_Disk_hasPage (H : HH) {r q n r2 q2 n2 v} (hn : n ≤ 1048576) : PFun Try.prog 124 [.a [.sl r q 1 0 n, .sl r2 q2 3 0 n2], I v] H (B (inR v 0 (n - 1))) := by
  refine PFun.of [1, 2, 4] Try.func124 rfl (by simp [Try.f124]) ?_
  intro d hd0 hfr hcl hout
  have hcd : ∀ n q, CleanH (hit [((d, n), q)]) H := fun n q => hcl.at
  simp (maxSteps := 4000000) [hd0, hfr, hout, hcl, hcd, delA_none, Try.f124]
  have w1 : IntKind.i64.wrap ((n : Int) - 1) = n - 1 := w64 (by omega) (by omega)
  simp (maxSteps := 4000000) [hd0, hfr, hout, hcl, hcd, delA_none, w1]
  refine (impl_within _ _ _ _).useCK ?_
  simp (maxSteps := 4000000) [hd0, hfr, hout, hcl, hcd, delA_none]
/-- the first place where a predicate holds, or -1 -/
def idxF {α : Type} (P : α → Bool) : List α → Int
  | [] => -1
  | x :: l => if P x then 0 else if idxF P l < 0 then -1 else idxF P l + 1
theorem idxF_ge {α : Type} {P : α → Bool} : ∀ {l : List α}, -1 ≤ idxF P l
  | [] => by simp [idxF]
  | x :: l => by
    have ih := idxF_ge (P := P) (l := l)
    simp only [idxF]; split <;> (try split) <;> omega
theorem idxF_any {α : Type} {P : α → Bool} : ∀ {l : List α}, decide (idxF P l ≥ 0) = l.any P
  | [] => by simp [idxF]
  | x :: l => by
    have ih := idxF_any (P := P) (l := l)
    simp only [idxF, List.any_cons, ← ih]
    by_cases h : P x = true
    · simp [h]
    · by_cases h2 : idxF P l < 0
      · simp [h, h2]; omega
      · simp [h, h2]; omega
theorem idxF_drop {α : Type} {P : α → Bool} {l : List α} {i : Nat} (h : ∀ x ∈ l.take i, P x = false) : idxF P l = if idxF P (l.drop i) < 0 then -1 else idxF P (l.drop i) + i := by
  induction l generalizing i with
  | nil => simp [idxF]
  | cons x l ih =>
    cases i with
    | zero => have := idxF_ge (P := P) (l := x :: l); simp; omega
    | succ i =>
      have hx : P x = false := h x (by simp)
      have := ih (i := i) (fun y hy => h y (by simp [hy]))
      simp only [idxF, hx, List.drop_succ_cons, Bool.false_eq_true, if_false]
      rw [this]
      by_cases h2 : idxF P (l.drop i) < 0
      · simp [h2]
      · simp only [h2, if_false]; rw [if_neg (by omega)]; push_cast; omega
theorem slices_IndexFunc_Sbyte (H : HH) {r q} {l : List (List Int)} {g caps} {P : List Int → Bool} (hb : l.length ≤ 1048576) (ha : arrAt H r q = some (1, l.map (encS 1 encU8))) (hcaps : ∀ c ∈ caps, isRef c = true ∨ ∃ y, c = .v y ∧ flat y = true) (hg : tfunc Try.prog g = true)
    (hf : ∀ i (hi : i < l.length), PFun Try.prog g ([.c (.sl r (q ++ [(i, 0)]) 1 0 l[i].length)] ++ caps.map T.c) H (B (P l[i]))) : PFun Try.prog 182 [.c (.sl r q 1 0 l.length), .c (.fn g caps)] H (I (idxF P l)) := by
  refine PFun.of [0, 1, 4, 5, 7, 8, 9, 16] Try.func182 rfl (by simp [Try.f182]) ?_
  intro d hd0 hfr hcl hout
  have hcd : ∀ n q, CleanH (hit [((d, n), q)]) H := fun n q => hcl.at
  have ha_n : ∀ n, ¬ (d, n) = r := fun n => nm_ne (ne_of_arr hfr ha)
  have ha_d : ¬ r.1 = d := ne_of_arr hfr ha
  have ha_m : ∀ n, ¬ r = (d, n) := fun n => nm_ne' (ne_of_arr hfr ha)
  simp (maxSteps := 4000000) [hd0, hfr, hout, hcl, hcd, delA_none, ha, ha_n, ha_d, ha_m, Try.f182]
  refine LoopK.intro (fun m s => ∃ i : Nat, i + m = l.length ∧ (∀ x ∈ l.take i, P x = false) ∧ s = ⟨[(0, .c (.sl r q 1 0 l.length)), (1, .c (.fn g caps)), (7, I l.length), (8, I i)], H, []⟩) (l.length + 1)
    (LK.intro l.length [0, 1, 7, 8] [] (by omega) (by decide) (by simp (maxSteps := 4000000) [hd0, hfr, hout, hcl, hcd, delA_none, ha, ha_n, ha_d, ha_m]) ⟨0, by simp⟩) ?_
  rintro m s ⟨i, him, hP, rfl⟩
  simp (maxSteps := 4000000) [hd0, hfr, hout, hcl, hcd, delA_none, ha, ha_n, ha_d, ha_m]
  constructor
  · intro hi
    have hi' : i < l.length := by omega
    have w1 : IntKind.i64.wrap ((i : Int) + 1) = i + 1 := w64 (by omega) (by omega)
    simp (maxSteps := 4000000) [hd0, hfr, hout, hcl, hcd, delA_none, ha, ha_n, ha_d, ha_m, hi', encS]
    refine ⟨⟨hcaps, hg⟩, ?_⟩
    refine (hf i hi').useCK ?_
    simp (maxSteps := 4000000) [hd0, hfr, hout, hcl, hcd, delA_none, ha, ha_n, ha_d, ha_m]
    have hd := idxF_drop hP
    rw [List.drop_eq_getElem_cons hi'] at hd
    constructor
    · intro h
      simp [idxF, h] at hd
      omega
    · intro h
      simp (maxSteps := 4000000) [hd0, hfr, hout, hcl, hcd, delA_none, ha, ha_n, ha_d, ha_m, w1]
      refine LK.intro (m - 1) [0, 1, 7, 8] [] (by omega) (by decide) (by simp (maxSteps := 4000000) [hd0, hfr, hout, hcl, hcd, delA_none, ha, ha_n, ha_d, ha_m]) ⟨i + 1, by omega, fun x hx => ?_, by simp⟩
      rw [List.take_succ_eq_append_getElem hi'] at hx
      rcases List.mem_append.1 hx with hx | hx
      · exact hP x hx
      · simp at hx; rw [hx]; exact h
  · intro h
    have hd := idxF_drop hP
    rw [List.drop_eq_nil_of_le h] at hd
    simp [idxF] at hd
    exact hd.symm
theorem slices_ContainsFunc_Sbyte (H : HH) {r q} {l : List (List Int)} {g caps} {P : List Int → Bool} (hb : l.length ≤ 1048576) (ha : arrAt H r q = some (1, l.map (encS 1 encU8))) (hcaps : ∀ c ∈ caps, isRef c = true ∨ ∃ y, c = .v y ∧ flat y = true) (hg : tfunc Try.prog g = true)
    (hf : ∀ i (hi : i < l.length), PFun Try.prog g ([.c (.sl r (q ++ [(i, 0)]) 1 0 l[i].length)] ++ caps.map T.c) H (B (P l[i]))) : PFun Try.prog 138 [.c (.sl r q 1 0 l.length), .c (.fn g caps)] H (B (l.any P)) := by
  refine PFun.of [0, 1, 4] Try.func138 rfl (by simp [Try.f138]) ?_
  intro d hd0 hfr hcl hout
  have hcd : ∀ n q, CleanH (hit [((d, n), q)]) H := fun n q => hcl.at
  have ha_n : ∀ n, ¬ (d, n) = r := fun n => nm_ne (ne_of_arr hfr ha)
  have ha_d : ¬ r.1 = d := ne_of_arr hfr ha
  have ha_m : ∀ n, ¬ r = (d, n) := fun n => nm_ne' (ne_of_arr hfr ha)
  simp (maxSteps := 4000000) [hd0, hfr, hout, hcl, hcd, delA_none, ha, ha_n, ha_d, ha_m, Try.f138]
  refine (slices_IndexFunc_Sbyte _ hb ha hcaps hg hf).useCK ?_
  simp (maxSteps := 4000000) [hd0, hfr, hout, hcl, hcd, delA_none, ha, ha_n, ha_d, ha_m]
  exact idxF_any
def looseF (n : Nat) : List DLoose → Int
  | [] => 0
  | w :: l => if !inR w.page 0 (n - 1) || !inR w.part 0 2 then 3 else if w.data.length ≠ 16 then 1 else looseF n l
def diskF (x : DDisk) : Int :=
  if x.pages.length < 1 ∨ x.pages.length > 8 ∨ (x.pages.any fun p => decide (p.length ≠ 48)) = true then 1 else if x.loose.length > 60 then 2 else looseF x.pages.length x.loose
end Go.Proofs.Ythejobdlfomcjaa

namespace Go.Proofs.Ythejobdlfomcjaa
open Go Go.Px Go.RowKit Go.Proofs
set_option linter.unnecessarySimpa false
set_option linter.unusedVariables false
set_option linter.unusedSimpArgs false
set_option maxRecDepth 100000
attribute [-simp] Int.not_le Int.not_lt
theorem impl_isTxn (H : HH) (v : Int) : PFun Try.prog 84 [I v] H (B (inR v 1 999)) := by
  refine PFun.of [0, 2] Try.func84 rfl (by simp [Try.f84]) ?_
  intro d hd0 hfr hcl hout
  have hcd : ∀ n q, CleanH (hit [((d, n), q)]) H := fun n q => hcl.at
  simp (maxSteps := 4000000) [hd0, hfr, hout, hcl, hcd, delA_none, Try.f84]
  refine (impl_within _ _ _ _).useCK ?_
  simp (maxSteps := 4000000) [hd0, hfr, hout, hcl, hcd, delA_none]
theorem impl_isLsn (H : HH) (v : Int) : PFun Try.prog 85 [I v] H (B (inR v 0 1000000)) := by
  refine PFun.of [0, 2] Try.func85 rfl (by simp [Try.f85]) ?_
  intro d hd0 hfr hcl hout
  have hcd : ∀ n q, CleanH (hit [((d, n), q)]) H := fun n q => hcl.at
  simp (maxSteps := 4000000) [hd0, hfr, hout, hcl, hcd, delA_none, Try.f85]
  refine (impl_within _ _ _ _).useCK ?_
  simp (maxSteps := 4000000) [hd0, hfr, hout, hcl, hcd, delA_none]
theorem impl_isKey (H : HH) (v : Int) : PFun Try.prog 91 [I v] H (B (inR v 0 31)) := by
  refine PFun.of [0, 2] Try.func91 rfl (by simp [Try.f91]) ?_
  intro d hd0 hfr hcl hout
  have hcd : ∀ n q, CleanH (hit [((d, n), q)]) H := fun n q => hcl.at
  simp (maxSteps := 4000000) [hd0, hfr, hout, hcl, hcd, delA_none, Try.f91]
  refine (impl_within _ _ _ _).useCK ?_
  simp (maxSteps := 4000000) [hd0, hfr, hout, hcl, hcd, delA_none]
theorem impl_isValue (H : HH) (v : Int) : PFun Try.prog 151 [I v] H (B (inR v 0 9999)) := by
  refine PFun.of [0, 2] Try.func151 rfl (by simp [Try.f151]) ?_
  intro d hd0 hfr hcl hout
  have hcd : ∀ n q, CleanH (hit [((d, n), q)]) H := fun n q => hcl.at
  simp (maxSteps := 4000000) [hd0, hfr, hout, hcl, hcd, delA_none, Try.f151]
  refine (impl_within _ _ _ _).useCK ?_
  simp (maxSteps := 4000000) [hd0, hfr, hout, hcl, hcd, delA_none]
theorem spec_l5Txn (H : HH) (v : Int) : PFun Try.prog 78 [I v] H (B (inR v 1 999)) := by
  refine PFun.of [0, 2] Try.func78 rfl (by simp [Try.f78]) ?_
  intro d hd0 hfr hcl hout
  have hcd : ∀ n q, CleanH (hit [((d, n), q)]) H := fun n q => hcl.at
  simp (maxSteps := 4000000) [hd0, hfr, hout, hcl, hcd, delA_none, Try.f78]
  refine (spec_l1In _ _ _ _).useCK ?_
  simp (maxSteps := 4000000) [hd0, hfr, hout, hcl, hcd, delA_none]
theorem spec_l1Key (H : HH) (v : Int) : PFun Try.prog 146 [I v] H (B (inR v 0 31)) := by
  refine PFun.of [0, 2] Try.func146 rfl (by simp [Try.f146]) ?_
  intro d hd0 hfr hcl hout
  have hcd : ∀ n q, CleanH (hit [((d, n), q)]) H := fun n q => hcl.at
  simp (maxSteps := 4000000) [hd0, hfr, hout, hcl, hcd, delA_none, Try.f146]
  refine (spec_l1In _ _ _ _).useCK ?_
  simp (maxSteps := 4000000) [hd0, hfr, hout, hcl, hcd, delA_none]
theorem spec_l1Value (H : HH) (v : Int) : PFun Try.prog 147 [I v] H (B (inR v 0 9999)) := by
  refine PFun.of [0, 2] Try.func147 rfl (by simp [Try.f147]) ?_
  intro d hd0 hfr hcl hout
  have hcd : ∀ n q, CleanH (hit [((d, n), q)]) H := fun n q => hcl.at
  simp (maxSteps := 4000000) [hd0, hfr, hout, hcl, hcd, delA_none, Try.f147]
  refine (spec_l1In _ _ _ _).useCK ?_
  simp (maxSteps := 4000000) [hd0, hfr, hout, hcl, hcd, delA_none]
/-- what stands ahead of the i-th -/
def prv {α : Type} (f : α → Int) (l : List α) (i : Nat) : Option Int := if i = 0 then none else l[i-1]?.map f
theorem prv_zero {α : Type} {f : α → Int} {l : List α} : prv f l 0 = none := rfl
theorem prv_succ {α : Type} {f : α → Int} {l : List α} {i : Nat} (h : i < l.length) : prv f l (i + 1) = some (f l[i]) := by simp [prv, h]
theorem prv_pos {α : Type} {f : α → Int} {l : List α} {i : Nat} (h0 : i ≠ 0) (h : i - 1 < l.length) : prv f l i = some (f l[i-1]) := by simp [prv, h0, h]
/-- not above what stands ahead -/
def nab (p : Option Int) (k : Int) : Bool := match p with | some j => decide (k ≤ j) | none => false
/-- what is wrong with cells -/
def cellsF : Option Int → List DCell → Int
  | _, [] => 0
  | p, c :: l => if !inR c.key 0 31 || !inR c.value 0 9999 then 3 else if nab p c.key then 1 else cellsF (some c.key) l
def riseF : Option Int → List Int → Bool
  | _, [] => true
  | p, c :: l => if nab p c then false else riseF (some c) l
theorem spec_l9Cells (H : HH) {r q} {l : List DCell} (hb : l.length ≤ 1048576) (ha : arrAt H r q = some (2, l.map DCell.enc)) : PFun Try.prog 80 [.c (.sl r q 2 0 l.length)] H (I (cellsF none l)) := by
  refine PFun.of [0, 2, 3, 7, 25, 41] Try.func80 rfl (by simp [Try.f80]) ?_
  intro d hd0 hfr hcl hout
  have hcd : ∀ n q, CleanH (hit [((d, n), q)]) H := fun n q => hcl.at
  have ha_n : ∀ n, ¬ (d, n) = r := fun n => nm_ne (ne_of_arr hfr ha)
  have ha_d : ¬ r.1 = d := ne_of_arr hfr ha
  have ha_m : ∀ n, ¬ r = (d, n) := fun n => nm_ne' (ne_of_arr hfr ha)
  simp (maxSteps := 4000000) [hd0, hfr, hout, hcl, hcd, delA_none, ha, ha_n, ha_d, ha_m, Try.f80]
  refine LoopK.intro (fun m s => ∃ i : Nat, i + m = l.length ∧ cellsF (prv DCell.key l i) (l.drop i) = cellsF none l ∧ s = ⟨[(0, .c (.sl r q 2 0 l.length)), (3, I i)], H, []⟩) (l.length + 1) (LK.intro l.length [0, 3] [] (by omega) (by decide) (by simp (maxSteps := 4000000) [hd0, hfr, hout, hcl, hcd, delA_none, ha, ha_n, ha_d, ha_m]) ⟨0, by simp [prv]⟩) ?_
  rintro m s ⟨i, him, hinv, rfl⟩
  by_cases hi' : i < l.length
  case neg =>
    rw [List.drop_eq_nil_of_le (by omega)] at hinv
    simp (maxSteps := 4000000) [hd0, hfr, hout, hcl, hcd, delA_none, ha, ha_n, ha_d, ha_m, show ¬ (i : Int) < l.length by omega]
    simpa [cellsF] using hinv
  rw [List.drop_eq_getElem_cons hi'] at hinv
  simp only [cellsF] at hinv
  simp (maxSteps := 4000000) [hd0, hfr, hout, hcl, hcd, delA_none, ha, ha_n, ha_d, ha_m, show (i : Int) < l.length by omega, hi', DCell.enc]
  refine (spec_l1Key _ _).useCK ?_
  by_cases c1 : inR l[i].key 0 31 = true
  case neg => simp only [Bool.not_eq_true] at c1; simp [c1] at hinv; simp (maxSteps := 4000000) [hd0, hfr, hout, hcl, hcd, delA_none, ha, ha_n, ha_d, ha_m, c1, hinv]
  rw [c1] at hinv ⊢
  simp (maxSteps := 4000000) [hd0, hfr, hout, hcl, hcd, delA_none, ha, ha_n, ha_d, ha_m, hi', DCell.enc]
  refine (spec_l1Value _ _).useCK ?_
  by_cases c2 : inR l[i].value 0 9999 = true
  case neg => simp only [Bool.not_eq_true] at c2; simp [c2] at hinv; simp (maxSteps := 4000000) [hd0, hfr, hout, hcl, hcd, delA_none, ha, ha_n, ha_d, ha_m, c2, hinv]
  rw [c2] at hinv ⊢
  simp (maxSteps := 4000000) [hd0, hfr, hout, hcl, hcd, delA_none, ha, ha_n, ha_d, ha_m]
  refine DrawK.intro 16 [0, 3, 41] rfl (by kernel_rfl) (by decide) ?_
  have w1 : IntKind.i64.wrap ((i : Int) + 1) = i + 1 := w64 (by omega) (by omega)
  have hend := prv_succ (f := DCell.key) hi'
  by_cases h0 : i = 0
  · simp [h0, prv, nab] at hinv
    simp (maxSteps := 4000000) [hd0, hfr, hout, hcl, hcd, delA_none, ha, ha_n, ha_d, ha_m, show ¬ (0 : Int) < (i : Int) by omega, show ¬ 0 < i by omega, w1]
    refine LK.intro (m - 1) [0, 3] [] (by omega) (by decide) (by simp (maxSteps := 4000000) [hd0, hfr, hout, hcl, hcd, delA_none, ha, ha_n, ha_d, ha_m]) ⟨i + 1, by omega, by rw [hend]; simpa [h0] using hinv, by simp⟩
  · have h3 : i - 1 < l.length := by omega
    rw [prv_pos h0 h3] at hinv
    have w2 : IntKind.i64.wrap ((i : Int) - 1) = (i - 1 : Nat) := by rw [w64 (by omega) (by omega)]; omega
    by_cases h4 : l[i].key ≤ l[i-1].key
    · simp [nab, h4] at hinv
      simp (maxSteps := 4000000) [hd0, hfr, hout, hcl, hcd, delA_none, ha, ha_n, ha_d, ha_m, show (0 : Int) < (i : Int) by omega, show 0 < i by omega, w1, w2, h3, hi', DCell.enc, h4, hinv.symm]
    · simp [nab, h4] at hinv
      simp (maxSteps := 4000000) [hd0, hfr, hout, hcl, hcd, delA_none, ha, ha_n, ha_d, ha_m, show (0 : Int) < (i : Int) by omega, show 0 < i by omega, w1, w2, h3, hi', DCell.enc, h4]
      refine LK.intro (m - 1) [0, 3] [] (by omega) (by decide) (by simp (maxSteps := 4000000) [hd0, hfr, hout, hcl, hcd, delA_none, ha, ha_n, ha_d, ha_m]) ⟨i + 1, by omega, by rw [hend]; exact hinv, by simp⟩
theorem impl_cellsFault (H : HH) {r q} {l : List DCell} (hb : l.length ≤ 1048576) (ha : arrAt H r q = some (2, l.map DCell.enc)) : PFun Try.prog 89 [.c (.sl r q 2 0 l.length)] H (I (cellsF none l)) := by
  refine PFun.of [0, 2, 3, 4, 5, 6, 7, 8, 12, 23] Try.func89 rfl (by simp [Try.f89]) ?_
  intro d hd0 hfr hcl hout
  have hcd : ∀ n q, CleanH (hit [((d, n), q)]) H := fun n q => hcl.at
  have ha_n : ∀ n, ¬ (d, n) = r := fun n => nm_ne (ne_of_arr hfr ha)
  have ha_d : ¬ r.1 = d := ne_of_arr hfr ha
  have ha_m : ∀ n, ¬ r = (d, n) := fun n => nm_ne' (ne_of_arr hfr ha)
  simp (maxSteps := 4000000) [hd0, hfr, hout, hcl, hcd, delA_none, ha, ha_n, ha_d, ha_m, Try.f89]
  refine LoopK.intro (fun m s => ∃ i : Nat, i + m = l.length ∧ cellsF (prv DCell.key l i) (l.drop i) = cellsF none l ∧ s = ⟨[(0, .c (.sl r q 2 0 l.length)), (5, .c (.sl r q 2 0 l.length)), (6, I l.length), (7, I i)], H, []⟩) (l.length + 1) (LK.intro l.length [0, 5, 6, 7] [] (by omega) (by decide) (by simp (maxSteps := 4000000) [hd0, hfr, hout, hcl, hcd, delA_none, ha, ha_n, ha_d, ha_m]) ⟨0, by simp [prv]⟩) ?_
  rintro m s ⟨i, him, hinv, rfl⟩
  by_cases hi' : i < l.length
  case neg =>
    rw [List.drop_eq_nil_of_le (by omega)] at hinv
    simp (maxSteps := 4000000) [hd0, hfr, hout, hcl, hcd, delA_none, ha, ha_n, ha_d, ha_m, show ¬ (i : Int) < l.length by omega]
    simpa [cellsF] using hinv
  rw [List.drop_eq_getElem_cons hi'] at hinv
  simp only [cellsF] at hinv
  simp (maxSteps := 4000000) [hd0, hfr, hout, hcl, hcd, delA_none, ha, ha_n, ha_d, ha_m, show (i : Int) < l.length by omega, hi', DCell.enc]
  refine (impl_isKey _ _).useCK ?_
  by_cases c1 : inR l[i].key 0 31 = true
  case neg => simp only [Bool.not_eq_true] at c1; simp [c1] at hinv; simp (maxSteps := 4000000) [hd0, hfr, hout, hcl, hcd, delA_none, ha, ha_n, ha_d, ha_m, c1, hinv]
  rw [c1] at hinv ⊢
  simp (maxSteps := 4000000) [hd0, hfr, hout, hcl, hcd, delA_none, ha, ha_n, ha_d, ha_m, hi', DCell.enc]
  refine (impl_isValue _ _).useCK ?_
  by_cases c2 : inR l[i].value 0 9999 = true
  case neg => simp only [Bool.not_eq_true] at c2; simp [c2] at hinv; simp (maxSteps := 4000000) [hd0, hfr, hout, hcl, hcd, delA_none, ha, ha_n, ha_d, ha_m, c2, hinv]
  rw [c2] at hinv ⊢
  simp (maxSteps := 4000000) [hd0, hfr, hout, hcl, hcd, delA_none, ha, ha_n, ha_d, ha_m]
  refine DrawK.intro 14 [0, 5, 6, 7, 23] rfl (by kernel_rfl) (by decide) ?_
  have w1 : IntKind.i64.wrap ((i : Int) + 1) = i + 1 := w64 (by omega) (by omega)
  have hend := prv_succ (f := DCell.key) hi'
  by_cases h0 : i = 0
  · simp [h0, prv, nab] at hinv
    simp (maxSteps := 4000000) [hd0, hfr, hout, hcl, hcd, delA_none, ha, ha_n, ha_d, ha_m, show ¬ (0 : Int) < (i : Int) by omega, show ¬ 0 < i by omega, w1]
    refine LK.intro (m - 1) [0, 5, 6, 7] [4] (by omega) (by decide) (by simp (maxSteps := 4000000) [hd0, hfr, hout, hcl, hcd, delA_none, ha, ha_n, ha_d, ha_m]) ⟨i + 1, by omega, by rw [hend]; simpa [h0] using hinv, by simp⟩
  · have h3 : i - 1 < l.length := by omega
    rw [prv_pos h0 h3] at hinv
    have w2 : IntKind.i64.wrap ((i : Int) - 1) = (i - 1 : Nat) := by rw [w64 (by omega) (by omega)]; omega
    by_cases h4 : l[i].key ≤ l[i-1].key
    · simp [nab, h4] at hinv
      simp (maxSteps := 4000000) [hd0, hfr, hout, hcl, hcd, delA_none, ha, ha_n, ha_d, ha_m, show (0 : Int) < (i : Int) by omega, show 0 < i by omega, w1, w2, h3, hi', DCell.enc, h4, hinv.symm]
    · simp [nab, h4] at hinv
      simp (maxSteps := 4000000) [hd0, hfr, hout, hcl, hcd, delA_none, ha, ha_n, ha_d, ha_m, show (0 : Int) < (i : Int) by omega, show 0 < i by omega, w1, w2, h3, hi', DCell.enc, h4]
      refine LK.intro (m - 1) [0, 5, 6, 7] [4] (by omega) (by decide) (by simp (maxSteps := 4000000) [hd0, hfr, hout, hcl, hcd, delA_none, ha, ha_n, ha_d, ha_m]) ⟨i + 1, by omega, by rw [hend]; exact hinv, by simp⟩
theorem riseF_one {l : List Int} (h : l.length < 1) : riseF none l = true := by
  have : l = [] := List.eq_nil_of_length_eq_zero (by omega)
  subst this; rfl
theorem riseF_start {l : List Int} : riseF (prv id l 1) (l.drop 1) = riseF none l := by
  cases l with
  | nil => rfl
  | cons a l => simp [prv, riseF, nab]
theorem impl_rise (H : HH) {r q} {l : List Int} (hb : l.length ≤ 1048576) (ha : arrAt H r q = some (1, l.map encI)) : PFun Try.prog 92 [.c (.sl r q 1 0 l.length)] H (B (riseF none l)) := by
  refine PFun.of [0, 2, 3, 7, 19] Try.func92 rfl (by simp [Try.f92]) ?_
  intro d hd0 hfr hcl hout
  have hcd : ∀ n q, CleanH (hit [((d, n), q)]) H := fun n q => hcl.at
  have ha_n : ∀ n, ¬ (d, n) = r := fun n => nm_ne (ne_of_arr hfr ha)
  have ha_d : ¬ r.1 = d := ne_of_arr hfr ha
  have ha_m : ∀ n, ¬ r = (d, n) := fun n => nm_ne' (ne_of_arr hfr ha)
  simp (maxSteps := 4000000) [hd0, hfr, hout, hcl, hcd, delA_none, ha, ha_n, ha_d, ha_m, Try.f92]
  refine LoopK.intro (fun m s => ∃ i : Nat, i + m = l.length + 1 ∧ 1 ≤ i ∧ riseF (prv id l i) (l.drop i) = riseF none l ∧ s = ⟨[(0, .c (.sl r q 1 0 l.length)), (3, I i)], H, []⟩) (l.length + 1) (LK.intro l.length [0, 3] [] (by omega) (by decide) (by simp (maxSteps := 4000000) [hd0, hfr, hout, hcl, hcd, delA_none, ha, ha_n, ha_d, ha_m]) ⟨1, by omega, by omega, riseF_start, by simp⟩) ?_
  rintro m s ⟨i, him, hi1, hinv, rfl⟩
  by_cases hi' : i < l.length
  case neg =>
    rw [List.drop_eq_nil_of_le (by omega)] at hinv
    simp (maxSteps := 4000000) [hd0, hfr, hout, hcl, hcd, delA_none, ha, ha_n, ha_d, ha_m, show ¬ (i : Int) < l.length by omega]
    simpa [riseF] using hinv
  rw [List.drop_eq_getElem_cons hi'] at hinv
  simp only [riseF] at hinv
  have w1 : IntKind.i64.wrap ((i : Int) + 1) = i + 1 := w64 (by omega) (by omega)
  have hend := prv_succ (f := id) hi'
  have h3 : i - 1 < l.length := by omega
  rw [prv_pos (by omega) h3] at hinv
  have w2 : IntKind.i64.wrap ((i : Int) - 1) = (i - 1 : Nat) := by rw [w64 (by omega) (by omega)]; omega
  simp (maxSteps := 4000000) [hd0, hfr, hout, hcl, hcd, delA_none, ha, ha_n, ha_d, ha_m, show (i : Int) < l.length by omega]
  refine DrawK.intro 10 [0, 3, 19] rfl (by kernel_rfl) (by decide) ?_
  by_cases h4 : l[i] ≤ l[i-1]
  · simp [nab, h4] at hinv
    simp (maxSteps := 4000000) [hd0, hfr, hout, hcl, hcd, delA_none, ha, ha_n, ha_d, ha_m, w1, w2, h3, hi', encI, h4, hinv]
  · simp [nab, h4] at hinv
    simp (maxSteps := 4000000) [hd0, hfr, hout, hcl, hcd, delA_none, ha, ha_n, ha_d, ha_m, w1, w2, h3, hi', encI, h4]
    refine LK.intro (m - 1) [0, 3] [] (by omega) (by decide) (by simp (maxSteps := 4000000) [hd0, hfr, hout, hcl, hcd, delA_none, ha, ha_n, ha_d, ha_m]) ⟨i + 1, by omega, by omega, by rw [hend]; exact hinv, by simp⟩
theorem slices_IndexFunc_int64 (H : HH) {r q} {l : List Int} {g caps} {P : Int → Bool} (hb : l.length ≤ 1048576) (ha : arrAt H r q = some (1, l.map encI)) (hcaps : ∀ c ∈ caps, isRef c = true ∨ ∃ y, c = .v y ∧ flat y = true) (hg : tfunc Try.prog g = true)
    (hf : ∀ v, PFun Try.prog g ([I v] ++ caps.map T.c) H (B (P v))) : PFun Try.prog 150 [.c (.sl r q 1 0 l.length), .c (.fn g caps)] H (I (idxF P l)) := by
  refine PFun.of [0, 1, 4, 5, 7, 8, 9, 16] Try.func150 rfl (by simp [Try.f150]) ?_
  intro d hd0 hfr hcl hout
  have hcd : ∀ n q, CleanH (hit [((d, n), q)]) H := fun n q => hcl.at
  have ha_n : ∀ n, ¬ (d, n) = r := fun n => nm_ne (ne_of_arr hfr ha)
  have ha_d : ¬ r.1 = d := ne_of_arr hfr ha
  have ha_m : ∀ n, ¬ r = (d, n) := fun n => nm_ne' (ne_of_arr hfr ha)
  simp (maxSteps := 4000000) [hd0, hfr, hout, hcl, hcd, delA_none, ha, ha_n, ha_d, ha_m, Try.f150]
  refine LoopK.intro (fun m s => ∃ i : Nat, i + m = l.length ∧ (∀ x ∈ l.take i, P x = false) ∧ s = ⟨[(0, .c (.sl r q 1 0 l.length)), (1, .c (.fn g caps)), (7, I l.length), (8, I i)], H, []⟩) (l.length + 1)
    (LK.intro l.length [0, 1, 7, 8] [] (by omega) (by decide) (by simp (maxSteps := 4000000) [hd0, hfr, hout, hcl, hcd, delA_none, ha, ha_n, ha_d, ha_m]) ⟨0, by simp⟩) ?_
  rintro m s ⟨i, him, hP, rfl⟩
  simp (maxSteps := 4000000) [hd0, hfr, hout, hcl, hcd, delA_none, ha, ha_n, ha_d, ha_m]
  constructor
  · intro hi
    have hi' : i < l.length := by omega
    have w1 : IntKind.i64.wrap ((i : Int) + 1) = i + 1 := w64 (by omega) (by omega)
    simp (maxSteps := 4000000) [hd0, hfr, hout, hcl, hcd, delA_none, ha, ha_n, ha_d, ha_m, hi', encI]
    refine ⟨⟨hcaps, hg⟩, ?_⟩
    refine (hf _).useCK ?_
    simp (maxSteps := 4000000) [hd0, hfr, hout, hcl, hcd, delA_none, ha, ha_n, ha_d, ha_m]
    have hd := idxF_drop hP
    rw [List.drop_eq_getElem_cons hi'] at hd
    constructor
    · intro h
      simp [idxF, h] at hd
      omega
    · intro h
      simp (maxSteps := 4000000) [hd0, hfr, hout, hcl, hcd, delA_none, ha, ha_n, ha_d, ha_m, w1]
      refine LK.intro (m - 1) [0, 1, 7, 8] [] (by omega) (by decide) (by simp (maxSteps := 4000000) [hd0, hfr, hout, hcl, hcd, delA_none, ha, ha_n, ha_d, ha_m]) ⟨i + 1, by omega, fun x hx => ?_, by simp⟩
      rw [List.take_succ_eq_append_getElem hi'] at hx
      rcases List.mem_append.1 hx with hx | hx
      · exact hP x hx
      · simp at hx; rw [hx]; exact h
  · intro h
    have hd := idxF_drop hP
    rw [List.drop_eq_nil_of_le h] at hd
    simp [idxF] at hd
    exact hd.symm
theorem slices_ContainsFunc_int64 (H : HH) {r q} {l : List Int} {g caps} {P : Int → Bool} (hb : l.length ≤ 1048576) (ha : arrAt H r q = some (1, l.map encI)) (hcaps : ∀ c ∈ caps, isRef c = true ∨ ∃ y, c = .v y ∧ flat y = true) (hg : tfunc Try.prog g = true)
    (hf : ∀ v, PFun Try.prog g ([I v] ++ caps.map T.c) H (B (P v))) : PFun Try.prog 86 [.c (.sl r q 1 0 l.length), .c (.fn g caps)] H (B (l.any P)) := by
  refine PFun.of [0, 1, 4] Try.func86 rfl (by simp [Try.f86]) ?_
  intro d hd0 hfr hcl hout
  have hcd : ∀ n q, CleanH (hit [((d, n), q)]) H := fun n q => hcl.at
  have ha_n : ∀ n, ¬ (d, n) = r := fun n => nm_ne (ne_of_arr hfr ha)
  have ha_d : ¬ r.1 = d := ne_of_arr hfr ha
  have ha_m : ∀ n, ¬ r = (d, n) := fun n => nm_ne' (ne_of_arr hfr ha)
  simp (maxSteps := 4000000) [hd0, hfr, hout, hcl, hcd, delA_none, ha, ha_n, ha_d, ha_m, Try.f86]
  refine (slices_IndexFunc_int64 _ hb ha hcaps hg hf).useCK ?_
  simp (maxSteps := 4000000) [hd0, hfr, hout, hcl, hcd, delA_none, ha, ha_n, ha_d, ha_m]
  exact idxF_any
end Go.Proofs.Ythejobdlfomcjaa

namespace Go.Px
open Go.RowKit
/-- ahead of a loop: a temporary that owns gets a name -/
theorem LoopK.bind {cx kv c t H lg K i z els} (hi : getT t i = some (.c (.own z els))) (hl : Px.look H (cx.d, i) = none) (h : LoopK cx kv c ⟨setT t i (.c (.sl (cx.d, i) [] z 0 els.length)), ((cx.d, i), .own z els) :: H, lg⟩ K) : LoopK cx kv c ⟨t, H, lg⟩ K :=
  SCode.ghost (fun e a w hd hr => by rw [← hd] at hl ⊢; exact Rel.bind hr hi hl) h
theorem wU8 {x : Int} : IntKind.u8.wrap x = x % 256 := by
  have e1 : (2 : Int) ^ 8 = 256 := rfl
  simp [IntKind.wrap, IntKind.bits, IntKind.signed, e1]
theorem wU64 {x : Int} (h1 : 0 ≤ x) (h2 : x ≤ 9223372036854775807) : IntKind.u64.wrap x = x := by
  have e1 : (2 : Int) ^ 64 = 18446744073709551616 := rfl
  simp only [IntKind.wrap, IntKind.bits, IntKind.signed, Bool.false_and, e1]
  simp
  omega
theorem or256 {n b : Int} (h1 : 0 ≤ n) (h2 : n < 1099511627776) (h3 : 0 ≤ b) (h4 : b < 256) : (((BitVec.ofInt 64 (n * 256) ||| BitVec.ofInt 64 b).toNat : Nat) : Int) = n * 256 + b := by
  obtain ⟨n, rfl⟩ := Int.eq_ofNat_of_zero_le h1
  obtain ⟨b, rfl⟩ := Int.eq_ofNat_of_zero_le h3
  have e1 : ((n : Int) * 256) = ((n * 256 : Nat) : Int) := by simp
  rw [e1, BitVec.ofInt_natCast, BitVec.ofInt_natCast, BitVec.toNat_or, BitVec.toNat_ofNat, BitVec.toNat_ofNat, Nat.mod_eq_of_lt (by omega), Nat.mod_eq_of_lt (by omega)]
  have := Nat.two_pow_add_eq_or_of_lt (i := 8) (b := b) (by omega) n
  rw [Nat.mul_comm n 256]
  have e2 : (2 : Nat) ^ 8 = 256 := rfl
  rw [e2] at this
  rw [← this]
  simp
end Go.Px

namespace Go.Proofs.Ythejobdlfomcjaa
open Go Go.Px Go.RowKit Go.Proofs
set_option linter.unnecessarySimpa false
set_option linter.unusedVariables false
set_option linter.unusedSimpArgs false
set_option maxRecDepth 100000
attribute [-simp] Int.not_le Int.not_lt
/-- the k-th byte of a number, from below -/
def byt (n : Int) (k : Nat) : Int := IntKind.u8.wrap (n.fdiv (2 ^ (min (8 * k) 64)))
def bytF (n : Int) : Nat → List Int
  | 0 => []
  | k + 1 => byt n k :: bytF n k
theorem bytF_len {n : Int} : ∀ {k}, (bytF n k).length = k
  | 0 => rfl
  | k + 1 => by simp [bytF, bytF_len]
theorem impl_put (H : HH) {l : List Int} {n : Int} {sz : Nat} (hs : sz ≤ 8) (hl : l.length ≤ 1048576) : PFun Try.prog 163 [.c (.own 1 (l.map encU8)), I n, I sz] H (.c (.own 1 ((l ++ bytF n sz).map encU8))) := by
  refine PFun.of [0, 1, 2, 6, 7, 11] Try.func163 rfl (by simp [Try.f163]) ?_
  intro d hd0 hfr hcl hout
  have hcd : ∀ n q, CleanH (hit [((d, n), q)]) H := fun n q => hcl.at
  simp (maxSteps := 4000000) [hd0, hfr, hout, hcl, hcd, delA_none, Try.f163]
  have w1 : IntKind.i64.wrap ((sz : Int) - 1) = sz - 1 := w64 (by omega) (by omega)
  simp (maxSteps := 4000000) [hd0, hfr, hout, hcl, hcd, delA_none, w1]
  refine LoopK.bind (i := 0) (by rfl) (by simp [hfr]) ?_
  simp (maxSteps := 4000000) [hd0, hfr, hout, hcl, hcd, delA_none]
  refine LoopK.intro (fun k s => ∃ cur : List Int, k ≤ 8 ∧ cur.length ≤ 1048576 + (8 - k) ∧ cur ++ bytF n k = l ++ bytF n sz ∧ s = ⟨[(0, .c (.sl (d, 0) [] 1 0 cur.length)), (1, I n), (7, I (k - 1))], ((d, 0), .own 1 (cur.map encU8)) :: H, []⟩) 9
    (LK.intro sz [0, 1, 7] [6] (by omega) (by decide) (by simp (maxSteps := 4000000) [hd0, hfr, hout, hcl, hcd, delA_none]) ⟨l, by omega, by omega, rfl, by simp⟩) ?_
  rintro k s ⟨cur, hk, hc, hcur, rfl⟩
  cases k with
  | zero =>
    simp [bytF] at hcur
    simp (maxSteps := 4000000) [hd0, hfr, hout, hcl, hcd, delA_none, hcur]
  | succ k =>
    have w2 : IntKind.i64.wrap (8 * (k : Int)) = 8 * k := w64 (by omega) (by omega)
    have w3 : IntKind.i64.wrap ((k : Int) - 1) = k - 1 := w64 (by omega) (by omega)
    have w4 : (8 * (k : Int)).toNat = 8 * k := by omega
    simp (maxSteps := 4000000) [hd0, hfr, hout, hcl, hcd, delA_none, w2, w3, w4, show (0 : Int) ≤ 8 * k by omega, IntKind.bits]
    refine ⟨by omega, ?_⟩
    refine LK.intro k [0, 1, 7] [] (by omega) (by decide) (by simp (maxSteps := 4000000) [hd0, hfr, hout, hcl, hcd, delA_none]) ⟨by omega, cur ++ [byt n k], by simp; omega, by rw [← hcur]; simp [bytF], by simp [encU8, byt]⟩
theorem spec_l1Bytes (H : HH) {n : Int} {sz : Nat} (hs : sz ≤ 8) : PFun Try.prog 179 [I n, I sz] H (.c (.own 1 ((bytF n sz).map encU8))) := by
  refine PFun.of [0, 1, 4, 5, 6, 11] Try.func179 rfl (by simp [Try.f179]) ?_
  intro d hd0 hfr hcl hout
  have hcd : ∀ n q, CleanH (hit [((d, n), q)]) H := fun n q => hcl.at
  simp (maxSteps := 4000000) [hd0, hfr, hout, hcl, hcd, delA_none, Try.f179]
  have w1 : IntKind.i64.wrap ((sz : Int) - 1) = sz - 1 := w64 (by omega) (by omega)
  simp (maxSteps := 4000000) [hd0, hfr, hout, hcl, hcd, delA_none, w1]
  refine LoopK.intro (fun k s => ∃ cur : List Int, k ≤ 8 ∧ cur.length ≤ 8 - k ∧ cur ++ bytF n k = bytF n sz ∧ s = ⟨[(0, I n), (5, .c (.sl (d, 5) [] 1 0 cur.length)), (6, I (k - 1))], ((d, 5), .own 1 (cur.map encU8)) :: H, []⟩) 9
    (LK.intro sz [0, 5, 6] [4] (by omega) (by decide) (by simp (maxSteps := 4000000) [hd0, hfr, hout, hcl, hcd, delA_none]) ⟨[], by omega, by simp, rfl, by simp⟩) ?_
  rintro k s ⟨cur, hk, hc, hcur, rfl⟩
  cases k with
  | zero =>
    simp [bytF] at hcur
    simp (maxSteps := 4000000) [hd0, hfr, hout, hcl, hcd, delA_none, hcur]
  | succ k =>
    have w2 : IntKind.i64.wrap (8 * (k : Int)) = 8 * k := w64 (by omega) (by omega)
    have w5 : IntKind.u64.wrap (8 * (k : Int)) = 8 * k := wU64 (by omega) (by omega)
    have w3 : IntKind.i64.wrap ((k : Int) - 1) = k - 1 := w64 (by omega) (by omega)
    have w4 : (8 * (k : Int)).toNat = 8 * k := by omega
    simp (maxSteps := 4000000) [hd0, hfr, hout, hcl, hcd, delA_none, w2, w3, w4, w5, show (0 : Int) ≤ 8 * k by omega, IntKind.bits]
    refine ⟨by omega, ?_⟩
    refine LK.intro k [0, 5, 6] [] (by omega) (by decide) (by simp (maxSteps := 4000000) [hd0, hfr, hout, hcl, hcd, delA_none]) ⟨by omega, cur ++ [byt n k], by simp; omega, by rw [← hcur]; simp [bytF], by simp [encU8, byt]⟩
/-- one byte more of a sum -/
def sumS (h b : Int) : Int := (IntKind.i64.wrap (IntKind.i64.wrap (IntKind.i64.wrap (h * 269) + IntKind.i64.wrap b) + 1)).tmod 65521
def sumF (l : List Int) : Int := l.foldl sumS 9
theorem foldl_next {α β : Type} {f : β → α → β} {z : β} {l : List α} {i : Nat} (h : i < l.length) : (l.take (i + 1)).foldl f z = f ((l.take i).foldl f z) l[i] := by
  rw [List.take_succ_eq_append_getElem h, List.foldl_append]; rfl
/-- bytes that are part of an array -/
theorem impl_SumBytes (H : HH) {r q j n} {l : List Int} (hb : l.length ≤ 1048576) (hn : j + n ≤ l.length) (ha : arrAt H r q = some (1, l.map encU8)) : PFun Try.prog 165 [.c (.sl r q 1 j n)] H (I (sumF ((l.drop j).take n))) := by
  refine PFun.of [0, 2, 3, 5, 6, 7, 8, 9] Try.func165 rfl (by simp [Try.f165]) ?_
  intro d hd0 hfr hcl hout
  have hcd : ∀ n q, CleanH (hit [((d, n), q)]) H := fun n q => hcl.at
  have ha_n : ∀ n, ¬ (d, n) = r := fun n => nm_ne (ne_of_arr hfr ha)
  have ha_d : ¬ r.1 = d := ne_of_arr hfr ha
  have ha_m : ∀ n, ¬ r = (d, n) := fun n => nm_ne' (ne_of_arr hfr ha)
  simp (maxSteps := 4000000) [hd0, hfr, hout, hcl, hcd, delA_none, ha, ha_n, ha_d, ha_m, Try.f165]
  refine LoopK.intro (fun m s => ∃ i : Nat, i + m = n ∧ s = ⟨[(3, I (sumF (((l.drop j).take n).take i))), (6, .c (.sl r q 1 j n)), (7, I n), (8, I i)], H, []⟩) (n + 1)
    (LK.intro n [3, 6, 7, 8] [] (by omega) (by decide) (by simp (maxSteps := 4000000) [hd0, hfr, hout, hcl, hcd, delA_none, ha, ha_n, ha_d, ha_m]) ⟨0, by simp [sumF]⟩) ?_
  rintro m s ⟨i, him, rfl⟩
  by_cases hi : i < n
  · have w1 : IntKind.i64.wrap ((i : Int) + 1) = i + 1 := w64 (by omega) (by omega)
    have hji : j + i < l.length := by omega
    have hnx : sumF (((l.drop j).take n).take (i + 1)) = sumS (sumF (((l.drop j).take n).take i)) l[j + i] := by
      unfold sumF; rw [foldl_next (by simp; omega)]; simp
    simp (maxSteps := 4000000) [hd0, hfr, hout, hcl, hcd, delA_none, ha, ha_n, ha_d, ha_m, show (i : Int) < n by omega, hji, encU8, w1]
    refine LK.intro (m - 1) [3, 6, 7, 8] [] (by omega) (by decide) (by simp (maxSteps := 4000000) [hd0, hfr, hout, hcl, hcd, delA_none, ha, ha_n, ha_d, ha_m]) ⟨i + 1, by omega, by simp [hnx, sumS]⟩
  · have : i = n := by omega
    subst this
    simp (maxSteps := 4000000) [hd0, hfr, hout, hcl, hcd, delA_none, ha, ha_n, ha_d, ha_m, show ¬ (i : Int) < i by omega, List.take_take]
theorem spec_SumBytes (H : HH) {r q j n} {l : List Int} (hb : l.length ≤ 1048576) (hn : j + n ≤ l.length) (ha : arrAt H r q = some (1, l.map encU8)) : PFun Try.prog 180 [.c (.sl r q 1 j n)] H (I (sumF ((l.drop j).take n))) := by
  refine PFun.of [0, 2, 3, 4, 8] Try.func180 rfl (by simp [Try.f180]) ?_
  intro d hd0 hfr hcl hout
  have hcd : ∀ n q, CleanH (hit [((d, n), q)]) H := fun n q => hcl.at
  have ha_n : ∀ n, ¬ (d, n) = r := fun n => nm_ne (ne_of_arr hfr ha)
  have ha_d : ¬ r.1 = d := ne_of_arr hfr ha
  have ha_m : ∀ n, ¬ r = (d, n) := fun n => nm_ne' (ne_of_arr hfr ha)
  simp (maxSteps := 4000000) [hd0, hfr, hout, hcl, hcd, delA_none, ha, ha_n, ha_d, ha_m, Try.f180]
  refine LoopK.intro (fun m s => ∃ i : Nat, i + m = n ∧ s = ⟨[(0, .c (.sl r q 1 j n)), (3, I (sumF (((l.drop j).take n).take i))), (4, I i)], H, []⟩) (n + 1)
    (LK.intro n [0, 3, 4] [] (by omega) (by decide) (by simp (maxSteps := 4000000) [hd0, hfr, hout, hcl, hcd, delA_none, ha, ha_n, ha_d, ha_m]) ⟨0, by simp [sumF]⟩) ?_
  rintro m s ⟨i, him, rfl⟩
  by_cases hi : i < n
  · have w1 : IntKind.i64.wrap ((i : Int) + 1) = i + 1 := w64 (by omega) (by omega)
    have hji : j + i < l.length := by omega
    have hnx : sumF (((l.drop j).take n).take (i + 1)) = sumS (sumF (((l.drop j).take n).take i)) l[j + i] := by
      unfold sumF; rw [foldl_next (by simp; omega)]; simp
    simp (maxSteps := 4000000) [hd0, hfr, hout, hcl, hcd, delA_none, ha, ha_n, ha_d, ha_m, show (i : Int) < n by omega, hji, encU8, w1]
    refine LK.intro (m - 1) [0, 3, 4] [] (by omega) (by decide) (by simp (maxSteps := 4000000) [hd0, hfr, hout, hcl, hcd, delA_none, ha, ha_n, ha_d, ha_m]) ⟨i + 1, by omega, by simp [hnx, sumS]⟩
  · have : i = n := by omega
    subst this
    simp (maxSteps := 4000000) [hd0, hfr, hout, hcl, hcd, delA_none, ha, ha_n, ha_d, ha_m, show ¬ (i : Int) < i by omega, List.take_take]
def takeS (n b : Int) : Int := n * 256 + b
def takeF (l : List Int) : Int := l.foldl takeS 0
def isB (l : List Int) : Prop := ∀ y ∈ l, 0 ≤ y ∧ y < 256
theorem takeF_bound : ∀ {l : List Int} {z : Int}, isB l → 0 ≤ z → 0 ≤ l.foldl takeS z ∧ l.foldl takeS z < (z + 1) * 256 ^ l.length
  | [], z, _, h0 => by simp; omega
  | b :: l, z, h, h0 => by
    obtain ⟨h1, h2⟩ := h b (by simp)
    obtain ⟨h3, h4⟩ := takeF_bound (l := l) (z := takeS z b) (fun y hy => h y (by simp [hy])) (by unfold takeS; omega)
    refine ⟨h3, Int.lt_of_lt_of_le h4 ?_⟩
    simp only [List.length_cons, Int.pow_succ]
    rw [Int.mul_comm (256 ^ l.length) 256, ← Int.mul_assoc]
    exact Int.mul_le_mul_of_nonneg_right (by unfold takeS; omega) (Int.le_of_lt (Int.pow_pos (by omega)))
theorem takeF_le {l : List Int} {k : Nat} (h : isB l) (hk : l.length ≤ k) (hk4 : k ≤ 4) : 0 ≤ takeF l ∧ takeF l < 4294967296 := by
  obtain ⟨h1, h2⟩ := takeF_bound (z := 0) h (by omega)
  refine ⟨h1, ?_⟩
  have : l.length = 0 ∨ l.length = 1 ∨ l.length = 2 ∨ l.length = 3 ∨ l.length = 4 := by omega
  unfold takeF
  rcases this with e | e | e | e | e <;> rw [e] at h2 <;> simp at h2 <;> omega
theorem isB.take {l : List Int} {n} (h : isB l) : isB (l.take n) := fun y hy => h y (List.mem_of_mem_take hy)
theorem isB.drop {l : List Int} {n} (h : isB l) : isB (l.drop n) := fun y hy => h y (List.mem_of_mem_drop hy)
theorem impl_take (H : HH) {r q j n} {l : List Int} (hb : l.length ≤ 1048576) (hB : isB l) (hn : j + n ≤ l.length) (h4 : n ≤ 4) (ha : arrAt H r q = some (1, l.map encU8)) : PFun Try.prog 172 [.c (.sl r q 1 j n)] H (I (takeF ((l.drop j).take n))) := by
  refine PFun.of [0, 2, 3, 5, 6, 7, 8, 9] Try.func172 rfl (by simp [Try.f172]) ?_
  intro d hd0 hfr hcl hout
  have hcd : ∀ n q, CleanH (hit [((d, n), q)]) H := fun n q => hcl.at
  have ha_n : ∀ n, ¬ (d, n) = r := fun n => nm_ne (ne_of_arr hfr ha)
  have ha_d : ¬ r.1 = d := ne_of_arr hfr ha
  have ha_m : ∀ n, ¬ r = (d, n) := fun n => nm_ne' (ne_of_arr hfr ha)
  simp (maxSteps := 4000000) [hd0, hfr, hout, hcl, hcd, delA_none, ha, ha_n, ha_d, ha_m, Try.f172]
  refine LoopK.intro (fun m s => ∃ i : Nat, i + m = n ∧ s = ⟨[(3, I (takeF (((l.drop j).take n).take i))), (6, .c (.sl r q 1 j n)), (7, I n), (8, I i)], H, []⟩) (n + 1)
    (LK.intro n [3, 6, 7, 8] [] (by omega) (by decide) (by simp (maxSteps := 4000000) [hd0, hfr, hout, hcl, hcd, delA_none, ha, ha_n, ha_d, ha_m]) ⟨0, by simp [takeF]⟩) ?_
  rintro m s ⟨i, him, rfl⟩
  by_cases hi : i < n
  · have w1 : IntKind.i64.wrap ((i : Int) + 1) = i + 1 := w64 (by omega) (by omega)
    have hji : j + i < l.length := by omega
    have hnx : takeF (((l.drop j).take n).take (i + 1)) = takeS (takeF (((l.drop j).take n).take i)) l[j + i] := by
      unfold takeF; rw [foldl_next (by simp; omega)]; simp
    obtain ⟨h1, h2⟩ := takeF_le (l := ((l.drop j).take n).take i) (k := 4) hB.drop.take.take (by simp; omega) (by omega)
    obtain ⟨h5, h6⟩ := hB l[j + i] (List.getElem_mem hji)
    generalize takeF (((l.drop j).take n).take i) = z at h1 h2 hnx
    have w2 : IntKind.i64.wrap (z * 256) = z * 256 := w64 (by omega) (by omega)
    have w3 : IntKind.i64.wrap l[j + i] = l[j + i] := w64 (by omega) (by omega)
    have w4 := or256 h1 (by omega) h5 h6
    have w5 : IntKind.i64.wrap (z * 256 + l[j + i]) = z * 256 + l[j + i] := w64 (by omega) (by omega)
    simp (maxSteps := 4000000) [hd0, hfr, hout, hcl, hcd, delA_none, ha, ha_n, ha_d, ha_m, show (i : Int) < n by omega, hji, encU8, w1, IntKind.bits, w2, w3, w4, w5]
    refine LK.intro (m - 1) [3, 6, 7, 8] [] (by omega) (by decide) (by simp (maxSteps := 4000000) [hd0, hfr, hout, hcl, hcd, delA_none, ha, ha_n, ha_d, ha_m]) ⟨i + 1, by omega, by simp [hnx, takeS]; exact (congrArg IntKind.i64.wrap w4).trans w5⟩
  · have : i = n := by omega
    subst this
    simp (maxSteps := 4000000) [hd0, hfr, hout, hcl, hcd, delA_none, ha, ha_n, ha_d, ha_m, show ¬ (i : Int) < i by omega, List.take_take]
theorem spec_l1Take (H : HH) {r q j n} {a : Int} {l : List Int} (hb : l.length ≤ 1048576) (hB : isB l) (hn : j + n ≤ l.length) (h4 : n ≤ 4) (haj : a = j) (ha : arrAt H r q = some (1, l.map encU8)) : PFun Try.prog 186 [.c (.sl r q 1 0 l.length), I a, I n] H (I (takeF ((l.drop j).take n))) := by
  subst haj
  refine PFun.of [0, 1, 2, 6, 7, 8, 11] Try.func186 rfl (by simp [Try.f186]) ?_
  intro d hd0 hfr hcl hout
  have hcd : ∀ n q, CleanH (hit [((d, n), q)]) H := fun n q => hcl.at
  have ha_n : ∀ n, ¬ (d, n) = r := fun n => nm_ne (ne_of_arr hfr ha)
  have ha_d : ¬ r.1 = d := ne_of_arr hfr ha
  have ha_m : ∀ n, ¬ r = (d, n) := fun n => nm_ne' (ne_of_arr hfr ha)
  simp (maxSteps := 4000000) [hd0, hfr, hout, hcl, hcd, delA_none, ha, ha_n, ha_d, ha_m, Try.f186]
  refine LoopK.intro (fun m s => ∃ i : Nat, i + m = n ∧ s = ⟨[(0, .c (.sl r q 1 0 l.length)), (1, I j), (2, I n), (7, I (takeF (((l.drop j).take n).take i))), (8, I i)], H, []⟩) (n + 1)
    (LK.intro n [0, 1, 2, 7, 8] [] (by omega) (by decide) (by simp (maxSteps := 4000000) [hd0, hfr, hout, hcl, hcd, delA_none, ha, ha_n, ha_d, ha_m]) ⟨0, by simp [takeF]⟩) ?_
  rintro m s ⟨i, him, rfl⟩
  by_cases hi : i < n
  · have w1 : IntKind.i64.wrap ((i : Int) + 1) = i + 1 := w64 (by omega) (by omega)
    have w6 : IntKind.i64.wrap ((j : Int) + i) = j + i := w64 (by omega) (by omega)
    have w7 : ((j : Int) + i).toNat = j + i := by omega
    have hji : j + i < l.length := by omega
    have hnx : takeF (((l.drop j).take n).take (i + 1)) = takeS (takeF (((l.drop j).take n).take i)) l[j + i] := by
      unfold takeF; rw [foldl_next (by simp; omega)]; simp
    obtain ⟨h1, h2⟩ := takeF_le (l := ((l.drop j).take n).take i) (k := 4) hB.drop.take.take (by simp; omega) (by omega)
    obtain ⟨h5, h6⟩ := hB l[j + i] (List.getElem_mem hji)
    generalize takeF (((l.drop j).take n).take i) = z at h1 h2 hnx
    have w2 : IntKind.i64.wrap (z * 256) = z * 256 := w64 (by omega) (by omega)
    have w3 : IntKind.i64.wrap l[j + i] = l[j + i] := w64 (by omega) (by omega)
    have w5 : IntKind.i64.wrap (z * 256 + l[j + i]) = z * 256 + l[j + i] := w64 (by omega) (by omega)
    simp (maxSteps := 4000000) [hd0, hfr, hout, hcl, hcd, delA_none, ha, ha_n, ha_d, ha_m, show (i : Int) < n by omega, hji, encU8, w1, w2, w3, w6, w7, w5, show (0 : Int) ≤ j + i by omega, show (j : Int) + i < l.length by omega]
    refine LK.intro (m - 1) [0, 1, 2, 7, 8] [] (by omega) (by decide) (by simp (maxSteps := 4000000) [hd0, hfr, hout, hcl, hcd, delA_none, ha, ha_n, ha_d, ha_m]) ⟨i + 1, by omega, by simp [hnx, takeS]⟩
  · have : i = n := by omega
    subst this
    simp (maxSteps := 4000000) [hd0, hfr, hout, hcl, hcd, delA_none, ha, ha_n, ha_d, ha_m, show ¬ (i : Int) < i by omega, List.take_take]
end Go.Proofs.Ythejobdlfomcjaa

namespace Go.Px
open Go.RowKit
set_option linter.unusedVariables false
set_option linter.unusedSimpArgs false
set_option linter.constructorNameAsVariable false
/-- one argument of a list stands for another -/
theorem TReps.swap {R R' : Cell → Value → Prop} {w : World} {K : Cell → Prop} {x y : T} {Fy} (hR : ∀ c x, isRef c = true → ¬ K c → R c x → R' c x) (hxy : ∀ v F, TRep R w x v F → F = [] ∧ ∃ F1, TRep R' w y v F1 ∧ F1.Sublist Fy) :
    ∀ {l vs F} {i : Nat}, TReps R w l vs F → l[i]? = some x → (∀ j z, j ≠ i → l[j]? = some z → z.clean K) → ∃ F' F1, TReps R' w (l.set i y) vs F' ∧ F'.Perm (F1 ++ F) ∧ F1.Sublist Fy
  | [], _, _, i, _, hi, _ => by simp at hi
  | z :: l, _, _, 0, .cons (v := v) (F := F) (vs := vs) (G := G) h1 h2, hi, hc => by
    simp at hi
    subst hi
    obtain ⟨rfl, F1, h3, h4⟩ := hxy _ _ h1
    have : TReps R' w l vs G := by
      have hall : T.cleans K l := by
        have : ∀ (l : List T), (∀ z ∈ l, z.clean K) → T.cleans K l := by
          intro l; induction l with
          | nil => intro _; trivial
          | cons a t ih => intro h; exact ⟨h a (by simp), ih (fun z hz => h z (by simp [hz]))⟩
        refine this l (fun z hz => ?_)
        obtain ⟨j, hj⟩ := List.mem_iff_getElem?.1 hz
        exact hc (j + 1) z (by omega) (by simpa using hj)
      cases (TRep.t h2).mono (R' := R') (w' := w) (K := K) hall hR (fun _ _ => rfl) with
      | t h => exact h
    exact ⟨F1 ++ G, F1, .cons h3 this, by simp, h4⟩
  | z :: l, _, _, i + 1, .cons (v := v) (F := F) (vs := vs) (G := G) h1 h2, hi, hc => by
    obtain ⟨F', F1, k1, k2, k3⟩ := TReps.swap hR hxy h2 (by simpa using hi) (fun j z' hj hz => hc (j + 1) z' (by omega) (by simpa using hz))
    refine ⟨F ++ F', F1, .cons (h1.mono (hc 0 z (by omega) (by simp)) hR (fun _ _ => rfl)) k1, ?_, k3⟩
    refine (List.Perm.append_left F k2).trans ?_
    rw [← List.append_assoc, ← List.append_assoc]
    exact List.Perm.append_right G List.perm_append_comm

theorem cleans_get {K : Cell → Prop} : ∀ {l : List T} {i : Nat}, T.cleans K (l.set i .u) → ∀ (j : Nat) y, j ≠ i → l[j]? = some y → y.clean K
  | [], _, _, j, y, _, h => by simp at h
  | z :: l, 0, hc, j, y, hj, h => by
    cases j with
    | zero => omega
    | succ j =>
      simp only [List.set_cons_zero, T.cleans] at hc
      have : ∀ {l : List T}, T.cleans K l → ∀ z ∈ l, z.clean K := by
        intro l; induction l with
        | nil => simp
        | cons a t ih => intro h z hz; rcases List.mem_cons.1 hz with rfl | hz; exact h.1; exact ih h.2 z hz
      exact this hc.2 y (List.mem_of_getElem? (by simpa using h))
  | z :: l, i + 1, hc, j, y, hj, h => by
    simp only [List.set_cons_succ, T.cleans] at hc
    cases j with
    | zero => simp at h; subst h; exact hc.1
    | succ j => exact cleans_get hc.2 j y (by omega) (by simpa using h)
/-- a call that takes over a local array of the caller's -/
theorem PUpd.takeCK {P f args H x H' d} {KP : St → Prop} {t' o lg0 i r z els} (h : PUpd P f (args.set i (.c (.own z els))) (delH H r) x H') (hd : d ≠ 0) (hi : args[i]? = some (.c (.sl r [] z 0 els.length))) (hr : r.1 = d) (hl : look H r = some (.own z els))
    (hcl : CleanH (hit [(r, [])]) H) (hot : T.cleans (hit [(r, [])]) (args.set i .u)) (hoc : OcleanT (hit [(r, [])]) t') (hq : KP ⟨putD (t'.filter (fun en => en.2.keep r [])) o x, H', lg0⟩) : PCalls P f args H (CK d KP t' o lg0) := by
  intro g w β F FA vs hg hh ha hn hlow
  have h0 : r.1 ≠ 0 := by rw [hr]; exact hd
  obtain ⟨Fr, G0, h1, h2, h3⟩ := hh.del h0 hl
  have hK : ∀ y x, isRef y = true → ¬ hit [(r, [])] y → VP w β H y x → VP w β (delH H r) y x := VP.map VP1.del
  have hcd : Clean (hit [(r, [])]) (.own z els) := hcl _ (look_mem hl)
  have hxy : ∀ v F, TRep (VP w β H) w (.c (.sl r [] z 0 els.length)) v F → F = [] ∧ ∃ F1, TRep (VP w β (delH H r)) w (.c (.own z els)) v F1 ∧ F1.Sublist Fr := by
    intro v F hv
    have hF : F = [] := hv.bare rfl
    subst hF
    refine ⟨rfl, ?_⟩
    have hv := trep_ref hv rfl
    obtain ⟨c', els', hd', e1, e2, e3, e4, e5⟩ := hv
    rw [hl] at e1; cases e1
    simp [Cell.get] at e2; subst e2
    simp [hdr] at e3; subst e3
    obtain ⟨F0', r1, r2⟩ := rep_drop h2 e5 (by omega)
    rw [List.drop_zero] at r1
    exact ⟨F0', .c (r1.mono hcd hK (fun _ _ => rfl)), r2⟩
  obtain ⟨F', F1', k1, k2, k3⟩ := TReps.swap hK hxy ha hi (cleans_get hot)
  have h4 := h3.mono (fun _ _ => rfl) (fun en he => hcl en (mem_delH he)) hK (fun _ _ => rfl) (fun _ _ => rfl)
  have hsub : ∀ b ∈ G0 ++ F', b ∈ F ++ FA := by
    intro b hb
    rcases List.mem_append.1 hb with hb | hb
    · exact List.mem_append.2 (.inl (h1.symm.subset (by simp [hb])))
    · rcases List.mem_append.1 (k2.subset hb) with hb | hb
      · exact List.mem_append.2 (.inl (h1.symm.subset (by simp [k3.subset hb])))
      · exact List.mem_append.2 (.inr hb)
  have hnd : (G0 ++ F').Nodup := by
    have e1 : (G0 ++ F').Perm ((F1' ++ G0) ++ FA) := by
      refine (List.Perm.append_left G0 k2).trans ?_
      rw [← List.append_assoc]
      exact List.Perm.append_right FA List.perm_append_comm
    have e2 : ((F1' ++ G0) ++ FA).Sublist ((Fr ++ G0) ++ FA) := List.Sublist.append (List.Sublist.append k3 (.refl _)) (.refl _)
    exact e1.nodup_iff.2 (List.Nodup.sublist e2 ((List.Perm.append_right FA h1).nodup_iff.1 hn))
  refine (h g w β G0 F' vs hg h4 k1 hnd (fun b hb => hlow b (hsub b hb))).mono ?_
  rintro en w' ⟨y, T, H1, lg, F1, FT, rfl, ⟨rfl, rfl, rfl⟩, m1, m2, m3, m4, m5⟩
  refine ⟨y, T, H1, [(r, [])], F1, FT, rfl, ?_, m1, m2, m3, ?_, fun y x hy hv => m5 y x (by intro hh; cases y <;> simp [hit1] at hh) (VP1.del y x hy hv)⟩
  · rw [CK_mk]
    refine ⟨by simpa using hoc, ?_⟩
    have : [(r, ([] : Path))].filter (fun e => decide (e.1.1 ≠ d)) = [] := by simp [hr]
    rw [this, List.nil_append]
    simpa [keepL] using hq
  · exact ⟨m4.os, m4.tape, m4.output, m4.size, fun b hb hm => m4.same b hb (fun h' => hm (hsub _ h')), fun b hb => (m4.new b hb).imp (fun h' => hsub _ h') id⟩
theorem PFun.takeCK {P f args H x d} {KP : St → Prop} {t' o lg0 i r z els} (h : PFun P f (args.set i (.c (.own z els))) (delH H r) x) (hd : d ≠ 0) (hi : args[i]? = some (.c (.sl r [] z 0 els.length))) (hr : r.1 = d) (hl : look H r = some (.own z els))
    (hcl : CleanH (hit [(r, [])]) H) (hot : T.cleans (hit [(r, [])]) (args.set i .u)) (hoc : OcleanT (hit [(r, [])]) t') (hq : KP ⟨putD (t'.filter (fun en => en.2.keep r [])) o x, delH H r, lg0⟩) : PCalls P f args H (CK d KP t' o lg0) :=
  PUpd.takeCK h.upd hd hi hr hl hcl hot hoc hq
theorem PFun.own0 {P f rest H x z} (h : PFun P f (.c (.own z []) :: rest) H x) : PFun P f (.c (.own 0 []) :: rest) H x := by
  intro g w β F FA vs hg hh ha hn hlow
  refine h g w β F FA vs hg hh ?_ hn hlow
  cases ha with
  | cons h1 h2 =>
    refine .cons ?_ h2
    cases h1 with
    | c hr =>
      rcases own_inv hr with ⟨-, rfl, A, rfl⟩ | ⟨b, off, cap, arr, el, F1, vs, fr, rfl, rfl, hz, -⟩
      · exact .c (.nil z A)
      · omega
/-- ahead of a drawn region: a temporary takes over the local array that it refers to -/
theorem DrawK.take {cx kv id ops s K} (i : Nat) (h : takeK cx.d s i (fun s' => DrawK cx kv id ops s' K)) : DrawK cx kv id ops s K := by
  obtain ⟨s', hk, hg⟩ := takeK_ghost h
  exact SCode.ghost (fun e a w hd hr => hg e a w hd hr) hk
def allocAt (ops : Array Oper) (m : Nat) : Option (Nat × Nat) :=
  match ops[m]? with
  | some o => (match o.op, o.guard, o.dst with | .alloc el, none, some da => some (el, da) | _, _, _ => none)
  | none => none
theorem allocAt_iff {ops m el da} (h : allocAt ops m = some (el, da)) : ∃ o, ops[m]? = some o ∧ o.op = .alloc el ∧ o.guard = none ∧ o.dst = some da := by
  unfold allocAt at h
  split at h
  · rename_i o ho
    split at h
    · rename_i h1 h2 h3
      cases h
      exact ⟨o, ho, h1, h2, h3⟩
    · cases h
  · cases h
def FTailA (cx : Cx) (ops : Array Oper) (m da : Nat) (zl : List Cell) (keep : List Nat) (H : HH) (lg : List (Nm × Path)) (KS : St → Prop) (val : List (Nat × T)) (cs : List Nat) : Prop :=
  (∀ j ∈ da :: keep, j ∉ cs) ∧ POps' cx ops (List.range' (m + 1) (ops.size - (m + 1))) KS ⟨(da, .c (.pt (cx.d, da) [] zl.length 0 0)) :: live keep val, ((cx.d, da), .own zl.length [zl]) :: H, lg⟩
theorem FTailA_mk {cx ops m da zl keep H lg KS val cs} : FTailA cx ops m da zl keep H lg KS val cs = ((∀ j ∈ da :: keep, j ∉ cs) ∧ POps' cx ops (List.range' (m + 1) (ops.size - (m + 1))) KS ⟨(da, .c (.pt (cx.d, da) [] zl.length 0 0)) :: live keep val, ((cx.d, da), .own zl.length [zl]) :: H, lg⟩) := rfl
attribute [simp] FTailA_mk
/-- a drawn region in which an object is made, behind the free operations in the text -/
theorem DrawK.introA {cx kv id ops t H lg K el da zl} (m : Nat) (keep : List Nat) (hmx : cx.P.follows .mixedOrders = true) (hoa : allocAt ops m = some (el, da)) (hchk : drawChkA ops m da = true) (hkeep : keep.Nodup) (hdk : da ∉ keep) (hdaN : da < cx.N) (hz : tzc cx.P el = some zl) (hl0 : 0 < zl.length)
    (hla : look H (cx.d, da) = none) (h : FRun' cx ops m H (FTailA cx ops m da zl keep H lg (kvK kv K)) m 0 t []) : DrawK cx kv id ops ⟨t, H, lg⟩ K := by
  obtain ⟨oa, h1, h2, h3, h4⟩ := allocAt_iff hoa
  refine SCode.drawA m keep hmx h1 h2 h3 h4 hz hl0 hla hdaN hchk hkeep hdk ?_
  refine FRun'.to (FRun'.mono (fun val cs hv => ?_) h)
  exact ⟨hv.1, SOps.mono (POps.sound hv.2) fun s' hs => by
    refine SOps.ghost (Ghost.keep (fun e => kv.contains e.1)) (SOps.nil ?_)
    rw [← keepV_filter]; exact hs⟩
/-- behind a round: a temporary that owns gets a name -/
theorem LK.bind {d I n t H lg i z els} (hi : getT t i = some (.c (.own z els))) (hl : Px.look H (d, i) = none) (h : LK d I n ⟨setT t i (.c (.sl (d, i) [] z 0 els.length)), ((d, i), .own z els) :: H, lg⟩) : LK d I n ⟨t, H, lg⟩ := by
  obtain ⟨m, s', h1, h2, h3⟩ := h
  exact ⟨m, s', h1, Ghost.trans (fun e a w hd hr => by rw [← hd] at hl ⊢; exact Rel.bind hr hi hl) h2, h3⟩
end Go.Px

namespace Go.Proofs.Ythejobdlfomcjaa
open Go Go.Px Go.RowKit Go.Proofs
set_option linter.unnecessarySimpa false
set_option linter.unusedVariables false
set_option linter.unusedSimpArgs false
set_option maxRecDepth 100000
attribute [-simp] Int.not_le Int.not_lt
def pageF (x : DPage) : Int := if (!inR x.id_ 0 7 || !inR x.lsn 0 1000000) = true then 3 else if 12 < x.cells.length then 2 else cellsF none x.cells
theorem spec_l1Lsn (H : HH) (v : Int) : PFun Try.prog 178 [I v] H (B (inR v 0 1000000)) := by
  refine PFun.of [0, 2] Try.func178 rfl (by simp [Try.f178]) ?_
  intro d hd0 hfr hcl hout
  have hcd : ∀ n q, CleanH (hit [((d, n), q)]) H := fun n q => hcl.at
  simp (maxSteps := 4000000) [hd0, hfr, hout, hcl, hcd, delA_none, Try.f178]
  refine (spec_l1In _ _ _ _).useCK ?_
  simp (maxSteps := 4000000) [hd0, hfr, hout, hcl, hcd, delA_none]
theorem impl_PageFault (H : HH) {r q} {x : DPage} (hl : x.cells.length ≤ 1048576) (ha : arrAt H r q = some (2, x.cells.map DCell.enc)) :
    PFun Try.prog 133 [.a [.v (.int .i64 x.id_), .v (.int .i64 x.lsn), .sl r q 2 0 x.cells.length]] H (I (pageF x)) := by
  refine PFun.of [1, 2, 3, 14] Try.func133 rfl (by simp [Try.f133]) ?_
  intro d hd0 hfr hcl hout
  have hcd : ∀ n q, CleanH (hit [((d, n), q)]) H := fun n q => hcl.at
  have ha_n : ∀ n, ¬ (d, n) = r := fun n => nm_ne (ne_of_arr hfr ha)
  have ha_d : ¬ r.1 = d := ne_of_arr hfr ha
  have ha_m : ∀ n, ¬ r = (d, n) := fun n => nm_ne' (ne_of_arr hfr ha)
  simp (maxSteps := 4000000) [hd0, hfr, hout, hcl, hcd, delA_none, ha, ha_n, ha_d, ha_m, Try.f133]
  refine (impl_within _ _ _ _).useCK ?_
  by_cases c1 : inR x.id_ 0 7 = true
  case neg => simp only [Bool.not_eq_true] at c1; simp (maxSteps := 4000000) [hd0, hfr, hout, hcl, hcd, delA_none, ha, ha_n, ha_d, ha_m, c1, pageF]
  rw [c1]
  simp (maxSteps := 4000000) [hd0, hfr, hout, hcl, hcd, delA_none, ha, ha_n, ha_d, ha_m]
  refine (impl_isLsn _ _).useCK ?_
  by_cases c2 : inR x.lsn 0 1000000 = true
  case neg => simp only [Bool.not_eq_true] at c2; simp (maxSteps := 4000000) [hd0, hfr, hout, hcl, hcd, delA_none, ha, ha_n, ha_d, ha_m, c1, c2, pageF]
  rw [c2]
  by_cases g1 : 12 < x.cells.length
  case pos => simp (maxSteps := 4000000) [hd0, hfr, hout, hcl, hcd, delA_none, ha, ha_n, ha_d, ha_m, show 12 < (x.cells.length : Int) by omega, c1, c2, g1, pageF]
  simp (maxSteps := 4000000) [hd0, hfr, hout, hcl, hcd, delA_none, ha, ha_n, ha_d, ha_m, show ¬ 12 < (x.cells.length : Int) by omega]
  refine (impl_cellsFault _ hl (by simp (maxSteps := 4000000) [hd0, hfr, hout, hcl, hcd, delA_none, ha, ha_n, ha_d, ha_m])).useCK ?_
  simp (maxSteps := 4000000) [hd0, hfr, hout, hcl, hcd, delA_none, ha, ha_n, ha_d, ha_m, c1, c2, g1, pageF]
theorem spec_PageFault (H : HH) {r q} {x : DPage} (hl : x.cells.length ≤ 1048576) (ha : arrAt H r q = some (2, x.cells.map DCell.enc)) :
    PFun Try.prog 135 [.a [.v (.int .i64 x.id_), .v (.int .i64 x.lsn), .sl r q 2 0 x.cells.length]] H (I (pageF x)) := by
  refine PFun.of [1, 2, 3, 13, 17, 22, 42, 60] Try.func135 rfl (by simp [Try.f135]) ?_
  intro d hd0 hfr hcl hout
  have hcd : ∀ n q, CleanH (hit [((d, n), q)]) H := fun n q => hcl.at
  have ha_n : ∀ n, ¬ (d, n) = r := fun n => nm_ne (ne_of_arr hfr ha)
  have ha_d : ¬ r.1 = d := ne_of_arr hfr ha
  have ha_m : ∀ n, ¬ r = (d, n) := fun n => nm_ne' (ne_of_arr hfr ha)
  simp (maxSteps := 4000000) [hd0, hfr, hout, hcl, hcd, delA_none, ha, ha_n, ha_d, ha_m, Try.f135]
  refine (spec_l1In _ _ _ _).useCK ?_
  by_cases c1 : inR x.id_ 0 7 = true
  case neg => simp only [Bool.not_eq_true] at c1; simp (maxSteps := 4000000) [hd0, hfr, hout, hcl, hcd, delA_none, ha, ha_n, ha_d, ha_m, c1, pageF]
  rw [c1]
  simp (maxSteps := 4000000) [hd0, hfr, hout, hcl, hcd, delA_none, ha, ha_n, ha_d, ha_m]
  refine (spec_l1Lsn _ _).useCK ?_
  by_cases c2 : inR x.lsn 0 1000000 = true
  case neg => simp only [Bool.not_eq_true] at c2; simp (maxSteps := 4000000) [hd0, hfr, hout, hcl, hcd, delA_none, ha, ha_n, ha_d, ha_m, c1, c2, pageF]
  rw [c2]
  by_cases g1 : 12 < x.cells.length
  case pos => simp (maxSteps := 4000000) [hd0, hfr, hout, hcl, hcd, delA_none, ha, ha_n, ha_d, ha_m, show 12 < (x.cells.length : Int) by omega, c1, c2, g1, pageF]
  simp (maxSteps := 4000000) [hd0, hfr, hout, hcl, hcd, delA_none, ha, ha_n, ha_d, ha_m, show ¬ 12 < (x.cells.length : Int) by omega]
  have hF : pageF x = cellsF none x.cells := by simp [pageF, c1, c2, g1]
  rw [hF]
  refine LoopK.intro (fun m s => ∃ i : Nat, i + m = x.cells.length ∧ cellsF (prv DCell.key x.cells i) (x.cells.drop i) = cellsF none x.cells ∧ s = ⟨[(1, .c (.pt (d, 1) [] 3 0 0)), (3, I i)], ((d, 1), .own 3 [[.v (.int .i64 x.id_), .v (.int .i64 x.lsn), .sl r q 2 0 x.cells.length]]) :: H, []⟩) (x.cells.length + 1) (LK.intro x.cells.length [1, 3] [] (by omega) (by decide) (by simp (maxSteps := 4000000) [hd0, hfr, hout, hcl, hcd, delA_none, ha, ha_n, ha_d, ha_m]) ⟨0, by simp [prv]⟩) ?_
  rintro m s ⟨i, him, hinv, rfl⟩
  by_cases hi' : i < x.cells.length
  case neg =>
    rw [List.drop_eq_nil_of_le (by omega)] at hinv
    simp (maxSteps := 4000000) [hd0, hfr, hout, hcl, hcd, delA_none, ha, ha_n, ha_d, ha_m, show ¬ (i : Int) < x.cells.length by omega]
    simpa [cellsF] using hinv
  rw [List.drop_eq_getElem_cons hi'] at hinv
  simp only [cellsF] at hinv
  simp (maxSteps := 4000000) [hd0, hfr, hout, hcl, hcd, delA_none, ha, ha_n, ha_d, ha_m, show (i : Int) < x.cells.length by omega, hi', DCell.enc]
  refine (spec_l1Key _ _).useCK ?_
  by_cases c1 : inR x.cells[i].key 0 31 = true
  case neg => simp only [Bool.not_eq_true] at c1; simp [c1] at hinv; simp (maxSteps := 4000000) [hd0, hfr, hout, hcl, hcd, delA_none, ha, ha_n, ha_d, ha_m, c1, hinv]
  rw [c1] at hinv ⊢
  simp (maxSteps := 4000000) [hd0, hfr, hout, hcl, hcd, delA_none, ha, ha_n, ha_d, ha_m, hi', DCell.enc]
  refine (spec_l1Value _ _).useCK ?_
  by_cases c2 : inR x.cells[i].value 0 9999 = true
  case neg => simp only [Bool.not_eq_true] at c2; simp [c2] at hinv; simp (maxSteps := 4000000) [hd0, hfr, hout, hcl, hcd, delA_none, ha, ha_n, ha_d, ha_m, c2, hinv]
  rw [c2] at hinv ⊢
  simp (maxSteps := 4000000) [hd0, hfr, hout, hcl, hcd, delA_none, ha, ha_n, ha_d, ha_m]
  refine DrawK.intro 18 [1, 3, 60] rfl (by kernel_rfl) (by decide) ?_
  have w1 : IntKind.i64.wrap ((i : Int) + 1) = i + 1 := w64 (by omega) (by omega)
  have hend := prv_succ (f := DCell.key) hi'
  by_cases h0 : i = 0
  · simp [h0, prv, nab] at hinv
    simp (maxSteps := 4000000) [hd0, hfr, hout, hcl, hcd, delA_none, ha, ha_n, ha_d, ha_m, show ¬ (0 : Int) < (i : Int) by omega, show ¬ 0 < i by omega, w1]
    refine LK.intro (m - 1) [1, 3] [] (by omega) (by decide) (by simp (maxSteps := 4000000) [hd0, hfr, hout, hcl, hcd, delA_none, ha, ha_n, ha_d, ha_m]) ⟨i + 1, by omega, by rw [hend]; simpa [h0] using hinv, by simp⟩
  · have h3 : i - 1 < x.cells.length := by omega
    rw [prv_pos h0 h3] at hinv
    have w2 : IntKind.i64.wrap ((i : Int) - 1) = (i - 1 : Nat) := by rw [w64 (by omega) (by omega)]; omega
    by_cases h4 : x.cells[i].key ≤ x.cells[i-1].key
    · simp [nab, h4] at hinv
      simp (maxSteps := 4000000) [hd0, hfr, hout, hcl, hcd, delA_none, ha, ha_n, ha_d, ha_m, show (0 : Int) < (i : Int) by omega, show 0 < i by omega, w1, w2, h3, hi', DCell.enc, h4, hinv.symm]
    · simp [nab, h4] at hinv
      simp (maxSteps := 4000000) [hd0, hfr, hout, hcl, hcd, delA_none, ha, ha_n, ha_d, ha_m, show (0 : Int) < (i : Int) by omega, show 0 < i by omega, w1, w2, h3, hi', DCell.enc, h4]
      refine LK.intro (m - 1) [1, 3] [] (by omega) (by decide) (by simp (maxSteps := 4000000) [hd0, hfr, hout, hcl, hcd, delA_none, ha, ha_n, ha_d, ha_m]) ⟨i + 1, by omega, by rw [hend]; exact hinv, by simp⟩
theorem slices_Equal_byte (H : HH) {r1 q1 r2 q2} {a b : List Int} (h1 : a.length ≤ 1048576) (a1 : arrAt H r1 q1 = some (1, a.map encU8)) (a2 : arrAt H r2 q2 = some (1, b.map encU8)) : PFun Try.prog 173 [.c (.sl r1 q1 1 0 a.length), .c (.sl r2 q2 1 0 b.length)] H (B (decide (a = b))) := by
  refine PFun.of [0, 1, 4, 5, 10, 12, 13, 14, 24] Try.func173 rfl (by simp [Try.f173]) ?_
  intro d hd0 hfr hcl hout
  have hcd : ∀ n q, CleanH (hit [((d, n), q)]) H := fun n q => hcl.at
  have a1_n : ∀ n, ¬ (d, n) = r1 := fun n => nm_ne (ne_of_arr hfr a1)
  have a1_d : ¬ r1.1 = d := ne_of_arr hfr a1
  have a1_m : ∀ n, ¬ r1 = (d, n) := fun n => nm_ne' (ne_of_arr hfr a1)
  have a2_n : ∀ n, ¬ (d, n) = r2 := fun n => nm_ne (ne_of_arr hfr a2)
  have a2_d : ¬ r2.1 = d := ne_of_arr hfr a2
  have a2_m : ∀ n, ¬ r2 = (d, n) := fun n => nm_ne' (ne_of_arr hfr a2)
  simp (maxSteps := 4000000) [hd0, hfr, hout, hcl, hcd, delA_none, a1, a1_n, a1_d, a1_m, a2, a2_n, a2_d, a2_m, Try.f173]
  by_cases hl : a.length = b.length
  case neg =>
    have : a ≠ b := fun e => hl (by rw [e])
    simp (maxSteps := 4000000) [hd0, hfr, hout, hcl, hcd, delA_none, a1, a1_n, a1_d, a1_m, a2, a2_n, a2_d, a2_m, show ¬ (a.length : Int) = b.length by omega, this]
  simp (maxSteps := 4000000) [hd0, hfr, hout, hcl, hcd, delA_none, a1, a1_n, a1_d, a1_m, a2, a2_n, a2_d, a2_m, hl]
  refine LoopK.intro (fun m s => ∃ i : Nat, i + m = a.length ∧ a.take i = b.take i ∧ s = ⟨[(0, .c (.sl r1 q1 1 0 b.length)), (1, .c (.sl r2 q2 1 0 b.length)), (12, I b.length), (13, I i)], H, []⟩) (a.length + 1)
    (LK.intro a.length [0, 1, 12, 13] [] (by omega) (by decide) (by simp (maxSteps := 4000000) [hd0, hfr, hout, hcl, hcd, delA_none, a1, a1_n, a1_d, a1_m, a2, a2_n, a2_d, a2_m]) ⟨0, by simp⟩) ?_
  rintro m s ⟨i, him, hinv, rfl⟩
  by_cases hi : i < a.length
  · have hi2 : i < b.length := by omega
    have w1 : IntKind.i64.wrap ((i : Int) + 1) = i + 1 := w64 (by omega) (by omega)
    simp (maxSteps := 4000000) [hd0, hfr, hout, hcl, hcd, delA_none, a1, a1_n, a1_d, a1_m, a2, a2_n, a2_d, a2_m, show (i : Int) < b.length by omega]
    refine DrawK.intro 9 [0, 1, 12, 13, 24] rfl (by kernel_rfl) (by decide) ?_
    by_cases he : a[i] = b[i]
    · simp (maxSteps := 4000000) [hd0, hfr, hout, hcl, hcd, delA_none, a1, a1_n, a1_d, a1_m, a2, a2_n, a2_d, a2_m, show (i : Int) < b.length by omega, hi, hi2, encU8, he, w1]
      refine LK.intro (m - 1) [0, 1, 12, 13] [] (by omega) (by decide) (by simp (maxSteps := 4000000) [hd0, hfr, hout, hcl, hcd, delA_none, a1, a1_n, a1_d, a1_m, a2, a2_n, a2_d, a2_m]) ⟨i + 1, by omega, by rw [List.take_succ_eq_append_getElem hi, List.take_succ_eq_append_getElem hi2, hinv, he], by simp⟩
    · have : a ≠ b := by rintro rfl; exact he rfl
      simp (maxSteps := 4000000) [hd0, hfr, hout, hcl, hcd, delA_none, a1, a1_n, a1_d, a1_m, a2, a2_n, a2_d, a2_m, show (i : Int) < b.length by omega, hi, hi2, encU8, he, this]
  · have : a = b := by
      rw [List.take_of_length_le (by omega), List.take_of_length_le (by omega)] at hinv
      exact hinv
    simp (maxSteps := 4000000) [hd0, hfr, hout, hcl, hcd, delA_none, a1, a1_n, a1_d, a1_m, a2, a2_n, a2_d, a2_m, show ¬ (i : Int) < b.length by omega, this]
end Go.Proofs.Ythejobdlfomcjaa

namespace Go.Proofs.Ythejobdlfomcjaa
open Go Go.Px Go.RowKit Go.Proofs
set_option linter.unnecessarySimpa false
set_option linter.unusedVariables false
set_option linter.unusedSimpArgs false
set_option maxRecDepth 100000
attribute [-simp] Int.not_le Int.not_lt
def head2 (x : DPage) : List Int := bytF x.id_ 1 ++ bytF x.lsn 4
def headF (x : DPage) : List Int := bytF x.id_ 1 ++ bytF x.lsn 4 ++ bytF x.cells.length 1
def cellB (c : DCell) : List Int := bytF c.key 1 ++ bytF c.value 2
def bodyF (x : DPage) (i : Nat) : List Int := headF x ++ (x.cells.take i).flatMap cellB
def bodyK (x : DPage) (i : Nat) (c : DCell) : List Int := bodyF x i ++ bytF c.key 1
def padF (x : DPage) : List Int := bodyF x x.cells.length ++ List.replicate (46 - (bodyF x x.cells.length).length) 0
def packF (x : DPage) : List Int := padF x ++ bytF (sumF (padF x)) 2
theorem flatB_len : ∀ {l : List DCell}, (l.flatMap cellB).length = 3 * l.length
  | [] => rfl
  | c :: l => by simp [List.flatMap_cons, flatB_len, cellB, bytF_len]; omega
theorem bodyF_len {x : DPage} {i : Nat} (hi : i ≤ x.cells.length) : (bodyF x i).length = 6 + 3 * i := by
  simp only [bodyF, List.length_append, flatB_len, headF, bytF_len, List.length_take]; omega
theorem padF_len {x : DPage} (h : x.cells.length ≤ 13) : (padF x).length = 46 := by
  simp only [padF, List.length_append, List.length_replicate, bodyF_len (Nat.le_refl _)]; omega
theorem packF_len {x : DPage} (h : x.cells.length ≤ 13) : (packF x).length = 48 := by
  simp only [packF, List.length_append, padF_len h, bytF_len]
theorem bodyF_succ {x : DPage} {i : Nat} (hi : i < x.cells.length) : bodyF x (i + 1) = (bodyF x i ++ bytF x.cells[i].key 1) ++ bytF x.cells[i].value 2 := by
  simp only [bodyF]
  rw [List.take_succ_eq_append_getElem hi, List.flatMap_append]
  simp [cellB]
theorem impl_put' (H : HH) {l l' : List Int} {n k : Int} (sz : Nat) (hk : k = sz) (hs : sz ≤ 8) (hl : l.length ≤ 1048576) (he : l' = l ++ bytF n sz) : PFun Try.prog 163 [.c (.own 1 (l.map encU8)), I n, I k] H (.c (.own 1 (l'.map encU8))) := by
  subst hk he; exact impl_put H hs hl
theorem impl_put0 (H : HH) {l' : List Int} {n k : Int} (sz : Nat) (hk : k = sz) (hs : sz ≤ 8) (he : l' = bytF n sz) : PFun Try.prog 163 [.c (.own 0 []), I n, I k] H (.c (.own 1 (l'.map encU8))) :=
  PFun.own0 (z := 1) (impl_put' H (l := []) sz hk hs (by simp) (by simpa using he))
theorem spec_l1Bytes' (H : HH) {n k : Int} (sz : Nat) (hk : k = sz) (hs : sz ≤ 8) : PFun Try.prog 179 [I n, I k] H (.c (.own 1 ((bytF n sz).map encU8))) := by
  subst hk; exact spec_l1Bytes H hs
theorem impl_Page_pack (H : HH) {r q} {x : DPage} (hl : x.cells.length ≤ 13) (ha : arrAt H r q = some (2, x.cells.map DCell.enc)) :
    PFun Try.prog 134 [.a [.v (.int .i64 x.id_), .v (.int .i64 x.lsn), .sl r q 2 0 x.cells.length]] H (.c (.own 1 ((packF x).map encU8))) := by
  refine PFun.of [1, 2, 3, 5, 17, 18, 19, 20] Try.func134 rfl (by simp [Try.f134]) ?_
  intro d hd0 hfr hcl hout
  have hcd : ∀ n q, CleanH (hit [((d, n), q)]) H := fun n q => hcl.at
  have ha_n : ∀ n, ¬ (d, n) = r := fun n => nm_ne (ne_of_arr hfr ha)
  have ha_d : ¬ r.1 = d := ne_of_arr hfr ha
  have ha_m : ∀ n, ¬ r = (d, n) := fun n => nm_ne' (ne_of_arr hfr ha)
  simp (maxSteps := 4000000) [hd0, hfr, hout, hcl, hcd, delA_none, ha, ha_n, ha_d, ha_m, Try.f134]
  refine DrawK.intro 11 [1, 3] rfl (by kernel_rfl) (by decide) ?_
  simp (maxSteps := 4000000) [hd0, hfr, hout, hcl, hcd, delA_none, ha, ha_n, ha_d, ha_m]
  refine ⟨_, impl_put0 _ 1 rfl (by omega) rfl, ?_⟩
  simp (maxSteps := 4000000) [hd0, hfr, hout, hcl, hcd, delA_none, ha, ha_n, ha_d, ha_m]
  refine ⟨by kernel_rfl, _, impl_put' (l' := head2 x) _ 4 rfl (by omega) (by simp [bytF_len]) rfl, ?_⟩
  simp (maxSteps := 4000000) [hd0, hfr, hout, hcl, hcd, delA_none, ha, ha_n, ha_d, ha_m]
  refine ⟨by kernel_rfl, _, impl_put' (l' := headF x) _ 1 rfl (by omega) (by simp [head2, bytF_len]) (by simp [headF, head2]), ?_⟩
  simp (maxSteps := 4000000) [hd0, hfr, hout, hcl, hcd, delA_none, ha, ha_n, ha_d, ha_m]
  refine And.intro (by kernel_rfl) ?_
  refine LoopK.bind (i := 3) rfl (by simp [hfr]) ?_
  simp (maxSteps := 4000000) [hd0, hfr, hout, hcl, hcd, delA_none, ha, ha_n, ha_d, ha_m]
  refine LoopK.intro (fun m s => ∃ i : Nat, i + m = x.cells.length ∧ s = ⟨[(3, .c (.sl (d, 3) [] 1 0 (bodyF x i).length)), (17, .c (.sl r q 2 0 x.cells.length)), (18, I x.cells.length), (19, I i)], ((d, 3), .own 1 ((bodyF x i).map encU8)) :: H, []⟩) (x.cells.length + 1)
    (LK.intro x.cells.length [3, 17, 18, 19] [1, 2] (by omega) (by decide) (by simp (maxSteps := 4000000) [hd0, hfr, hout, hcl, hcd, delA_none, ha, ha_n, ha_d, ha_m]) ⟨0, by simp [bodyF]⟩) ?_
  rintro m s ⟨i, him, rfl⟩
  by_cases hi : i < x.cells.length
  · have w1 : IntKind.i64.wrap ((i : Int) + 1) = i + 1 := w64 (by omega) (by omega)
    simp (maxSteps := 4000000) [hd0, hfr, hout, hcl, hcd, delA_none, ha, ha_n, ha_d, ha_m, show (i : Int) < x.cells.length by omega, hi, DCell.enc]
    refine DrawK.take 3 ?_
    simp (maxSteps := 4000000) [hd0, hfr, hout, hcl, hcd, delA_none, ha, ha_n, ha_d, ha_m]
    have hb := bodyF_len (x := x) (i := i) (by omega)
    refine DrawK.intro 7 [17, 18, 19, 29] rfl (by kernel_rfl) (by decide) ?_
    simp (maxSteps := 4000000) [hd0, hfr, hout, hcl, hcd, delA_none, ha, ha_n, ha_d, ha_m, hi, DCell.enc]
    repeat (first | (refine And.intro (by kernel_rfl) ?_) | (refine And.intro (by omega) ?_))
    refine ⟨_, impl_put' (l' := bodyK x i x.cells[i]) _ 1 rfl (by omega) (by omega) rfl, ?_⟩
    simp (maxSteps := 4000000) [hd0, hfr, hout, hcl, hcd, delA_none, ha, ha_n, ha_d, ha_m, hi, DCell.enc]
    repeat (first | (refine And.intro (by kernel_rfl) ?_) | (refine And.intro (by omega) ?_))
    refine ⟨_, impl_put' (l' := bodyF x (i + 1)) _ 2 rfl (by omega) (by simp [bodyK, bytF_len]; omega) (by rw [bodyF_succ hi]; rfl), ?_⟩
    simp (maxSteps := 4000000) [hd0, hfr, hout, hcl, hcd, delA_none, ha, ha_n, ha_d, ha_m, w1]
    refine LK.intro (m - 1) [3, 17, 18, 19] [5] (by omega) (by decide) (by simp (maxSteps := 4000000) [hd0, hfr, hout, hcl, hcd, delA_none, ha, ha_n, ha_d, ha_m]) ⟨i + 1, by omega, by simp⟩
  · have : i = x.cells.length := by omega
    subst this
    have hb := bodyF_len (x := x) (Nat.le_refl _)
    have w1 : IntKind.i64.wrap (46 - ((bodyF x x.cells.length).length : Int)) = 46 - (bodyF x x.cells.length).length := w64 (by omega) (by omega)
    have hpl := padF_len hl
    have hpad : List.map encU8 (bodyF x x.cells.length) ++ List.replicate (46 - (bodyF x x.cells.length).length) [Cell.v (.int .u8 0)] = (padF x).map encU8 := by simp [padF, encU8]
    have h46 : (bodyF x x.cells.length).length + (46 - (bodyF x x.cells.length).length) = (padF x).length := by omega
    simp (maxSteps := 4000000) [hd0, hfr, hout, hcl, hcd, delA_none, ha, ha_n, ha_d, ha_m, w1, show (0 : Int) ≤ 46 - ((bodyF x x.cells.length).length : Int) by omega, show (46 - ((bodyF x x.cells.length).length : Int)).toNat = 46 - (bodyF x x.cells.length).length by omega, hpad, h46]
    refine ⟨⟨by omega, by omega⟩, ?_⟩
    refine (impl_SumBytes _ (l := padF x) (j := 0) (by omega) (by omega) (by simp (maxSteps := 4000000) [hd0, hfr, hout, hcl, hcd, delA_none, ha, ha_n, ha_d, ha_m])).useCK ?_
    simp (maxSteps := 4000000) [hd0, hfr, hout, hcl, hcd, delA_none, ha, ha_n, ha_d, ha_m]
    refine PFun.takeCK (i := 0) (r := (d, 3)) (z := 1) (els := (padF x).map encU8) (h := by simpa using impl_put' (l := padF x) (l' := packF x) H 2 rfl (by omega) (by omega) (by simp only [packF])) hd0 (by simp) rfl (by simp) (by simp (maxSteps := 4000000) [hd0, hfr, hout, hcl, hcd, delA_none, ha, ha_n, ha_d, ha_m]) (by simp (maxSteps := 4000000) [hd0, hfr, hout, hcl, hcd, delA_none, ha, ha_n, ha_d, ha_m]) (by simp (maxSteps := 4000000) [hd0, hfr, hout, hcl, hcd, delA_none, ha, ha_n, ha_d, ha_m]) ?_
    simp (maxSteps := 4000000) [hd0, hfr, hout, hcl, hcd, delA_none, ha, ha_n, ha_d, ha_m]
theorem spec_l1Pack (H : HH) {r q} {x : DPage} (hl : x.cells.length ≤ 13) (ha : arrAt H r q = some (2, x.cells.map DCell.enc)) :
    PFun Try.prog 136 [.a [.v (.int .i64 x.id_), .v (.int .i64 x.lsn), .sl r q 2 0 x.cells.length]] H (.c (.own 1 ((packF x).map encU8))) := by
  refine PFun.of [1, 2, 3, 4, 24, 47] Try.func136 rfl (by simp [Try.f136]) ?_
  intro d hd0 hfr hcl hout
  have hcd : ∀ n q, CleanH (hit [((d, n), q)]) H := fun n q => hcl.at
  have ha_n : ∀ n, ¬ (d, n) = r := fun n => nm_ne (ne_of_arr hfr ha)
  have ha_d : ¬ r.1 = d := ne_of_arr hfr ha
  have ha_m : ∀ n, ¬ r = (d, n) := fun n => nm_ne' (ne_of_arr hfr ha)
  simp (maxSteps := 4000000) [hd0, hfr, hout, hcl, hcd, delA_none, ha, ha_n, ha_d, ha_m, Try.f136]
  refine DrawK.intro 7 [1, 8, 11] rfl (by kernel_rfl) (by decide) ?_
  simp (maxSteps := 4000000) [hd0, hfr, hout, hcl, hcd, delA_none, ha, ha_n, ha_d, ha_m]
  repeat (first | (refine And.intro (by kernel_rfl) ?_) | (refine And.intro (by omega) ?_))
  refine ⟨_, spec_l1Bytes' _ 4 rfl (by omega), ?_⟩
  have e1 : (bytF x.lsn 4).length = 4 := bytF_len
  simp (maxSteps := 4000000) [hd0, hfr, hout, hcl, hcd, delA_none, ha, ha_n, ha_d, ha_m, e1]
  have e2 : [Cell.v (.int .u8 (IntKind.u8.wrap x.id_))] :: (List.map encU8 (bytF x.lsn 4) ++ [[Cell.v (.int .u8 (IntKind.u8.wrap x.cells.length))]]) = (headF x).map encU8 := by simp [headF, encU8, bytF, byt]
  rw [e2]
  have e3 : (headF x).length = 6 := by simp [headF, bytF_len]
  refine LoopK.intro (fun m s => ∃ i : Nat, i + m = x.cells.length ∧ s = ⟨[(1, .c (.pt (d, 1) [] 3 0 0)), (3, .c (.sl (d, 3) [] 1 0 (bodyF x i).length)), (4, I i)], ((d, 3), .own 1 ((bodyF x i).map encU8)) :: ((d, 1), .own 3 [[.v (.int .i64 x.id_), .v (.int .i64 x.lsn), .sl r q 2 0 x.cells.length]]) :: H, []⟩) (x.cells.length + 1)
    (LK.intro x.cells.length [1, 3, 4] [2] (by omega) (by decide) (by simp (maxSteps := 4000000) [hd0, hfr, hout, hcl, hcd, delA_none, ha, ha_n, ha_d, ha_m]) ⟨0, by simp [bodyF, e3]⟩) ?_
  rintro m s ⟨i, him, rfl⟩
  by_cases hi : i < x.cells.length
  · have w1 : IntKind.i64.wrap ((i : Int) + 1) = i + 1 := w64 (by omega) (by omega)
    simp (maxSteps := 4000000) [hd0, hfr, hout, hcl, hcd, delA_none, ha, ha_n, ha_d, ha_m, show (i : Int) < x.cells.length by omega, hi, DCell.enc]
    have hb := bodyF_len (x := x) (i := i) (by omega)
    have e4 : (bytF x.cells[i].value 2).length = 2 := bytF_len
    have hs := bodyF_succ hi
    refine DrawK.take 3 ?_
    simp (maxSteps := 4000000) [hd0, hfr, hout, hcl, hcd, delA_none, ha, ha_n, ha_d, ha_m]
    refine DrawK.intro 18 [1, 4, 44] rfl (by kernel_rfl) (by decide) ?_
    simp (maxSteps := 4000000) [hd0, hfr, hout, hcl, hcd, delA_none, ha, ha_n, ha_d, ha_m, hi, DCell.enc]
    repeat (first | (refine And.intro (by kernel_rfl) ?_) | (refine And.intro (by omega) ?_))
    refine ⟨_, spec_l1Bytes' _ 2 rfl (by omega), ?_⟩
    simp (maxSteps := 4000000) [hd0, hfr, hout, hcl, hcd, delA_none, ha, ha_n, ha_d, ha_m, e4, w1]
    repeat (first | (refine And.intro (by kernel_rfl) ?_) | (refine And.intro (by omega) ?_))
    refine LK.intro (m - 1) [1, 3, 4] [] (by omega) (by decide) (by simp (maxSteps := 4000000) [hd0, hfr, hout, hcl, hcd, delA_none, ha, ha_n, ha_d, ha_m]) ⟨i + 1, by omega, by simp [hs, encU8, bytF, byt]⟩
  · have : i = x.cells.length := by omega
    subst this
    simp (maxSteps := 4000000) [hd0, hfr, hout, hcl, hcd, delA_none, ha, ha_n, ha_d, ha_m]
    have hb := bodyF_len (x := x) (Nat.le_refl _)
    have hpl := padF_len hl
    refine LoopK.intro (fun m s => ∃ k : Nat, k + m = 46 - (bodyF x x.cells.length).length ∧ s = ⟨[(3, .c (.sl (d, 3) [] 1 0 ((bodyF x x.cells.length).length + k)))], ((d, 3), .own 1 ((bodyF x x.cells.length ++ List.replicate k 0).map encU8)) :: H, []⟩) 47
      (LK.intro (46 - (bodyF x x.cells.length).length) [3] [1] (by omega) (by decide) (by simp (maxSteps := 4000000) [hd0, hfr, hout, hcl, hcd, delA_none, ha, ha_n, ha_d, ha_m]) ⟨0, by simp⟩) ?_
    rintro m s ⟨k, hk, rfl⟩
    by_cases hk2 : (bodyF x x.cells.length).length + k < 46
    · simp (maxSteps := 4000000) [hd0, hfr, hout, hcl, hcd, delA_none, ha, ha_n, ha_d, ha_m, show ((bodyF x x.cells.length).length : Int) + k < 46 by omega]
      refine ⟨by omega, ?_⟩
      refine LK.intro (m - 1) [3] [] (by omega) (by decide) (by simp (maxSteps := 4000000) [hd0, hfr, hout, hcl, hcd, delA_none, ha, ha_n, ha_d, ha_m]) ⟨k + 1, by omega, by simp [List.replicate_succ', encU8]⟩
    · have : k = 46 - (bodyF x x.cells.length).length := by omega
      subst this
      have hpad : List.map encU8 (bodyF x x.cells.length) ++ List.replicate (46 - (bodyF x x.cells.length).length) (encU8 0) = (padF x).map encU8 := by simp [padF, encU8]
      have h46 : (bodyF x x.cells.length).length + (46 - (bodyF x x.cells.length).length) = (padF x).length := by omega
      have e5 : (bytF (sumF (padF x)) 2).length = 2 := bytF_len
      simp (maxSteps := 4000000) [hd0, hfr, hout, hcl, hcd, delA_none, ha, ha_n, ha_d, ha_m, show ¬ ((bodyF x x.cells.length).length : Int) + ((46 - (bodyF x x.cells.length).length : Nat) : Int) < 46 by omega, hpad, h46, show ¬ ((padF x).length : Int) < 46 by omega]
      refine (spec_SumBytes _ (l := padF x) (j := 0) (by omega) (by omega) (by simp (maxSteps := 4000000) [hd0, hfr, hout, hcl, hcd, delA_none, ha, ha_n, ha_d, ha_m])).useCK ?_
      simp (maxSteps := 4000000) [hd0, hfr, hout, hcl, hcd, delA_none, ha, ha_n, ha_d, ha_m]
      refine (spec_l1Bytes' _ 2 rfl (by omega)).useCK ?_
      simp (maxSteps := 4000000) [hd0, hfr, hout, hcl, hcd, delA_none, ha, ha_n, ha_d, ha_m, e5]
      refine ⟨by omega, ?_⟩
      simp [packF]
end Go.Proofs.Ythejobdlfomcjaa

namespace Go.Proofs.Ythejobdlfomcjaa
open Go Go.Px Go.RowKit Go.Proofs
set_option linter.unnecessarySimpa false
set_option linter.unusedVariables false
set_option linter.unusedSimpArgs false
set_option maxRecDepth 100000
attribute [-simp] Int.not_le Int.not_lt
theorem DDisk.page0 {x : DDisk} (h : ¬ (x.pages.length : Int) < 1) : x.pages ≠ [] := by rintro h0; simp [h0] at h
theorem impl_DiskFault (H : HH) {r1 q1 r2 q2} {x : DDisk} (hl : x.le 1048576) (a1 : arrAt H r1 q1 = some (1, x.pages.map (encS 1 encU8))) (a2 : arrAt H r2 q2 = some (3, x.loose.map DLoose.enc)) :
    PFun Try.prog 59 [.a [.sl r1 q1 1 0 x.pages.length, .sl r2 q2 3 0 x.loose.length]] H (I (diskF x)) := by
  obtain ⟨⟨b1, b1p⟩, b2, b2p⟩ := hl
  by_cases h1 : (x.pages.length : Int) < 1
  · have : diskF x = 1 := by unfold diskF; rw [if_pos (.inl (by omega))]
    refine PFun.of [1, 2, 4, 5, 21, 27, 28, 29, 30, 33, 45] Try.func59 rfl (by simp [Try.f59]) ?_
    intro d hd0 hfr hcl hout
    have hcd : ∀ n q, CleanH (hit [((d, n), q)]) H := fun n q => hcl.at
    have a1_n : ∀ n, ¬ (d, n) = r1 := fun n => nm_ne (ne_of_arr hfr a1)
    have a1_d : ¬ r1.1 = d := ne_of_arr hfr a1
    have a1_m : ∀ n, ¬ r1 = (d, n) := fun n => nm_ne' (ne_of_arr hfr a1)
    have a2_n : ∀ n, ¬ (d, n) = r2 := fun n => nm_ne (ne_of_arr hfr a2)
    have a2_d : ¬ r2.1 = d := ne_of_arr hfr a2
    have a2_m : ∀ n, ¬ r2 = (d, n) := fun n => nm_ne' (ne_of_arr hfr a2)
    simp (maxSteps := 4000000) [hd0, hfr, hout, hcl, hcd, delA_none, a1, a1_n, a1_d, a1_m, a2, a2_n, a2_d, a2_m, Try.f59, h1, this]
  by_cases h2 : 8 < (x.pages.length : Int)
  · have : diskF x = 1 := by unfold diskF; rw [if_pos (.inr (.inl (by omega)))]
    refine PFun.of [1, 2, 4, 5, 21, 27, 28, 29, 30, 33, 45] Try.func59 rfl (by simp [Try.f59]) ?_
    intro d hd0 hfr hcl hout
    have hcd : ∀ n q, CleanH (hit [((d, n), q)]) H := fun n q => hcl.at
    have a1_n : ∀ n, ¬ (d, n) = r1 := fun n => nm_ne (ne_of_arr hfr a1)
    have a1_d : ¬ r1.1 = d := ne_of_arr hfr a1
    have a1_m : ∀ n, ¬ r1 = (d, n) := fun n => nm_ne' (ne_of_arr hfr a1)
    have a2_n : ∀ n, ¬ (d, n) = r2 := fun n => nm_ne (ne_of_arr hfr a2)
    have a2_d : ¬ r2.1 = d := ne_of_arr hfr a2
    have a2_m : ∀ n, ¬ r2 = (d, n) := fun n => nm_ne' (ne_of_arr hfr a2)
    simp (maxSteps := 4000000) [hd0, hfr, hout, hcl, hcd, delA_none, a1, a1_n, a1_d, a1_m, a2, a2_n, a2_d, a2_m, Try.f59, h1, h2, this]
  refine PFun.of [1, 2, 4, 5, 21, 27, 28, 29, 30, 33, 45] Try.func59 rfl (by simp [Try.f59]) ?_
  intro d hd0 hfr hcl hout
  have hcd : ∀ n q, CleanH (hit [((d, n), q)]) H := fun n q => hcl.at
  have a1_n : ∀ n, ¬ (d, n) = r1 := fun n => nm_ne (ne_of_arr hfr a1)
  have a1_d : ¬ r1.1 = d := ne_of_arr hfr a1
  have a1_m : ∀ n, ¬ r1 = (d, n) := fun n => nm_ne' (ne_of_arr hfr a1)
  have a2_n : ∀ n, ¬ (d, n) = r2 := fun n => nm_ne (ne_of_arr hfr a2)
  have a2_d : ¬ r2.1 = d := ne_of_arr hfr a2
  have a2_m : ∀ n, ¬ r2 = (d, n) := fun n => nm_ne' (ne_of_arr hfr a2)
  simp (maxSteps := 4000000) [hd0, hfr, hout, hcl, hcd, delA_none, a1, a1_n, a1_d, a1_m, a2, a2_n, a2_d, a2_m, Try.f59, h1, h2]
  refine (slices_ContainsFunc_Sbyte _ (P := fun p => decide (p.length ≠ 48)) b1 (by simp (maxSteps := 4000000) [hd0, hfr, hout, hcl, hcd, delA_none, a1, a1_n, a1_d, a1_m, a2, a2_n, a2_d, a2_m]) (by simp) (by simp) (fun i hi => impl_DiskFault_1 _)).useCK ?_
  by_cases h3 : (x.pages.any fun p => decide (p.length ≠ 48)) = true
  · have : diskF x = 1 := by unfold diskF; rw [if_pos (.inr (.inr h3))]
    rw [h3]
    simp (maxSteps := 4000000) [hd0, hfr, hout, hcl, hcd, delA_none, a1, a1_n, a1_d, a1_m, a2, a2_n, a2_d, a2_m, this]
  rw [Bool.eq_false_iff.2 h3]
  by_cases h4 : 60 < (x.loose.length : Int)
  · have : diskF x = 2 := by unfold diskF; rw [if_neg (by rintro (h | h | h); omega; omega; exact h3 h), if_pos (by omega)]
    simp (maxSteps := 4000000) [hd0, hfr, hout, hcl, hcd, delA_none, a1, a1_n, a1_d, a1_m, a2, a2_n, a2_d, a2_m, h4, this]
  have hd : diskF x = looseF x.pages.length x.loose := by unfold diskF; rw [if_neg (by rintro (h | h | h); omega; omega; exact h3 h), if_neg (by omega)]
  simp (maxSteps := 4000000) [hd0, hfr, hout, hcl, hcd, delA_none, a1, a1_n, a1_d, a1_m, a2, a2_n, a2_d, a2_m, h4]
  refine LoopK.intro (fun m s => ∃ i : Nat, i + m = x.loose.length ∧ looseF x.pages.length (x.loose.drop i) = diskF x ∧ s = ⟨[(1, .c (.pt (d, 1) [] 2 0 0)), (27, .c (.sl r2 q2 3 0 x.loose.length)), (28, I x.loose.length), (29, I i)], ((d, 1), .own 2 [[.sl r1 q1 1 0 x.pages.length, .sl r2 q2 3 0 x.loose.length]]) :: H, []⟩) (x.loose.length + 1)
    (LK.intro x.loose.length [1, 27, 28, 29] [] (by omega) (by decide) (by simp (maxSteps := 4000000) [hd0, hfr, hout, hcl, hcd, delA_none, a1, a1_n, a1_d, a1_m, a2, a2_n, a2_d, a2_m]) ⟨0, by simp [hd]⟩) ?_
  rintro m s ⟨i, him, hF, rfl⟩
  simp (maxSteps := 4000000) [hd0, hfr, hout, hcl, hcd, delA_none, a1, a1_n, a1_d, a1_m, a2, a2_n, a2_d, a2_m]
  constructor
  · intro hi
    have hi' : i < x.loose.length := by omega
    rw [List.drop_eq_getElem_cons hi', looseF] at hF
    have w1 : IntKind.i64.wrap ((i : Int) + 1) = i + 1 := w64 (by omega) (by omega)
    simp (maxSteps := 4000000) [hd0, hfr, hout, hcl, hcd, delA_none, a1, a1_n, a1_d, a1_m, a2, a2_n, a2_d, a2_m, hi', DLoose.enc]
    refine (impl_Disk_hasPage _ b1).useCK ?_
    by_cases c1 : inR x.loose[i].page 0 (x.pages.length - 1) = true
    case neg => simp only [Bool.not_eq_true] at c1; simp [c1] at hF; simp (maxSteps := 4000000) [hd0, hfr, hout, hcl, hcd, delA_none, a1, a1_n, a1_d, a1_m, a2, a2_n, a2_d, a2_m, c1, hF]
    rw [c1] at hF ⊢
    simp (maxSteps := 4000000) [hd0, hfr, hout, hcl, hcd, delA_none, a1, a1_n, a1_d, a1_m, a2, a2_n, a2_d, a2_m]
    refine (impl_within _ _ _ _).useCK ?_
    by_cases c2 : inR x.loose[i].part 0 2 = true
    case neg => simp only [Bool.not_eq_true] at c2; simp [c2] at hF; simp (maxSteps := 4000000) [hd0, hfr, hout, hcl, hcd, delA_none, a1, a1_n, a1_d, a1_m, a2, a2_n, a2_d, a2_m, c2, hF]
    rw [c2] at hF ⊢
    by_cases c3 : x.loose[i].data.length = 16
    case neg => simp [c3] at hF; simp (maxSteps := 4000000) [hd0, hfr, hout, hcl, hcd, delA_none, a1, a1_n, a1_d, a1_m, a2, a2_n, a2_d, a2_m, show ¬ (x.loose[i].data.length : Int) = 16 by omega, hF]
    simp [c3] at hF
    simp (maxSteps := 4000000) [hd0, hfr, hout, hcl, hcd, delA_none, a1, a1_n, a1_d, a1_m, a2, a2_n, a2_d, a2_m, c3, w1]
    exact LK.intro (m - 1) [1, 27, 28, 29] [4] (by omega) (by decide) (by simp (maxSteps := 4000000) [hd0, hfr, hout, hcl, hcd, delA_none, a1, a1_n, a1_d, a1_m, a2, a2_n, a2_d, a2_m]) ⟨i + 1, by omega, by simpa using hF, by simp⟩
  · intro h
    rw [List.drop_eq_nil_of_le (by omega)] at hF
    simpa [looseF] using hF
theorem spec_DiskFault (H : HH) {r1 q1 r2 q2} {x : DDisk} (hl : x.le 1048576) (a1 : arrAt H r1 q1 = some (1, x.pages.map (encS 1 encU8))) (a2 : arrAt H r2 q2 = some (3, x.loose.map DLoose.enc)) :
    PFun Try.prog 97 [.a [.sl r1 q1 1 0 x.pages.length, .sl r2 q2 3 0 x.loose.length]] H (I (diskF x)) := by
  obtain ⟨⟨b1, b1p⟩, b2, b2p⟩ := hl
  by_cases h1 : (x.pages.length : Int) < 1
  · have : diskF x = 1 := by unfold diskF; rw [if_pos (.inl (by omega))]
    refine PFun.of [1, 2, 3, 4, 14, 19, 28, 32, 37, 61, 69] Try.func97 rfl (by simp [Try.f97]) ?_
    intro d hd0 hfr hcl hout
    have hcd : ∀ n q, CleanH (hit [((d, n), q)]) H := fun n q => hcl.at
    have a1_n : ∀ n, ¬ (d, n) = r1 := fun n => nm_ne (ne_of_arr hfr a1)
    have a1_d : ¬ r1.1 = d := ne_of_arr hfr a1
    have a1_m : ∀ n, ¬ r1 = (d, n) := fun n => nm_ne' (ne_of_arr hfr a1)
    have a2_n : ∀ n, ¬ (d, n) = r2 := fun n => nm_ne (ne_of_arr hfr a2)
    have a2_d : ¬ r2.1 = d := ne_of_arr hfr a2
    have a2_m : ∀ n, ¬ r2 = (d, n) := fun n => nm_ne' (ne_of_arr hfr a2)
    simp (maxSteps := 4000000) [hd0, hfr, hout, hcl, hcd, delA_none, a1, a1_n, a1_d, a1_m, a2, a2_n, a2_d, a2_m, Try.f97, h1, this]
  by_cases h2 : 8 < (x.pages.length : Int)
  · have : diskF x = 1 := by unfold diskF; rw [if_pos (.inr (.inl (by omega)))]
    refine PFun.of [1, 2, 3, 4, 14, 19, 28, 32, 37, 61, 69] Try.func97 rfl (by simp [Try.f97]) ?_
    intro d hd0 hfr hcl hout
    have hcd : ∀ n q, CleanH (hit [((d, n), q)]) H := fun n q => hcl.at
    have a1_n : ∀ n, ¬ (d, n) = r1 := fun n => nm_ne (ne_of_arr hfr a1)
    have a1_d : ¬ r1.1 = d := ne_of_arr hfr a1
    have a1_m : ∀ n, ¬ r1 = (d, n) := fun n => nm_ne' (ne_of_arr hfr a1)
    have a2_n : ∀ n, ¬ (d, n) = r2 := fun n => nm_ne (ne_of_arr hfr a2)
    have a2_d : ¬ r2.1 = d := ne_of_arr hfr a2
    have a2_m : ∀ n, ¬ r2 = (d, n) := fun n => nm_ne' (ne_of_arr hfr a2)
    simp (maxSteps := 4000000) [hd0, hfr, hout, hcl, hcd, delA_none, a1, a1_n, a1_d, a1_m, a2, a2_n, a2_d, a2_m, Try.f97, h1, h2, this]
  refine PFun.of [1, 2, 3, 4, 14, 19, 28, 32, 37, 61, 69] Try.func97 rfl (by simp [Try.f97]) ?_
  intro d hd0 hfr hcl hout
  have hcd : ∀ n q, CleanH (hit [((d, n), q)]) H := fun n q => hcl.at
  have a1_n : ∀ n, ¬ (d, n) = r1 := fun n => nm_ne (ne_of_arr hfr a1)
  have a1_d : ¬ r1.1 = d := ne_of_arr hfr a1
  have a1_m : ∀ n, ¬ r1 = (d, n) := fun n => nm_ne' (ne_of_arr hfr a1)
  have a2_n : ∀ n, ¬ (d, n) = r2 := fun n => nm_ne (ne_of_arr hfr a2)
  have a2_d : ¬ r2.1 = d := ne_of_arr hfr a2
  have a2_m : ∀ n, ¬ r2 = (d, n) := fun n => nm_ne' (ne_of_arr hfr a2)
  simp (maxSteps := 4000000) [hd0, hfr, hout, hcl, hcd, delA_none, a1, a1_n, a1_d, a1_m, a2, a2_n, a2_d, a2_m, Try.f97, h1, h2]
  refine LoopK.intro (fun m s => ∃ i : Nat, i + m = x.pages.length ∧ (x.pages.any fun p => decide (p.length ≠ 48)) = ((x.pages.drop i).any fun p => decide (p.length ≠ 48)) ∧ s = ⟨[(1, .c (.pt (d, 1) [] 2 0 0)), (3, I i)], ((d, 1), .own 2 [[.sl r1 q1 1 0 x.pages.length, .sl r2 q2 3 0 x.loose.length]]) :: H, []⟩) (x.pages.length + 1)
    (LK.intro x.pages.length [1, 3] [] (by omega) (by decide) (by simp (maxSteps := 4000000) [hd0, hfr, hout, hcl, hcd, delA_none, a1, a1_n, a1_d, a1_m, a2, a2_n, a2_d, a2_m]) ⟨0, by simp⟩) ?_
  rintro m s ⟨i, him, hP, rfl⟩
  simp (maxSteps := 4000000) [hd0, hfr, hout, hcl, hcd, delA_none, a1, a1_n, a1_d, a1_m, a2, a2_n, a2_d, a2_m]
  constructor
  · intro hi
    have hi' : i < x.pages.length := by omega
    rw [List.drop_eq_getElem_cons hi', List.any_cons] at hP
    have w1 : IntKind.i64.wrap ((i : Int) + 1) = i + 1 := w64 (by omega) (by omega)
    by_cases c1 : x.pages[i].length = 48
    · simp (maxSteps := 4000000) [hd0, hfr, hout, hcl, hcd, delA_none, a1, a1_n, a1_d, a1_m, a2, a2_n, a2_d, a2_m, hi', encS, c1, w1]
      exact LK.intro (m - 1) [1, 3] [] (by omega) (by decide) (by simp (maxSteps := 4000000) [hd0, hfr, hout, hcl, hcd, delA_none, a1, a1_n, a1_d, a1_m, a2, a2_n, a2_d, a2_m]) ⟨i + 1, by omega, by simpa [c1] using hP, by simp⟩
    · have : diskF x = 1 := by unfold diskF; rw [if_pos (.inr (.inr (by rw [hP]; simp [c1])))]
      simp (maxSteps := 4000000) [hd0, hfr, hout, hcl, hcd, delA_none, a1, a1_n, a1_d, a1_m, a2, a2_n, a2_d, a2_m, hi', encS, show ¬ (x.pages[i].length : Int) = 48 by omega, this]
  · intro hi
    rw [List.drop_eq_nil_of_le (by omega)] at hP
    by_cases h4 : 60 < (x.loose.length : Int)
    · have : diskF x = 2 := by unfold diskF; rw [if_neg (by rintro (h | h | h); omega; omega; rw [hP] at h; simp at h), if_pos (by omega)]
      simp (maxSteps := 4000000) [hd0, hfr, hout, hcl, hcd, delA_none, a1, a1_n, a1_d, a1_m, a2, a2_n, a2_d, a2_m, h4, this]
    have hd : diskF x = looseF x.pages.length x.loose := by unfold diskF; rw [if_neg (by rintro (h | h | h); omega; omega; rw [hP] at h; simp at h), if_neg (by omega)]
    simp (maxSteps := 4000000) [hd0, hfr, hout, hcl, hcd, delA_none, a1, a1_n, a1_d, a1_m, a2, a2_n, a2_d, a2_m, h4]
    refine LoopK.intro (fun m s => ∃ i : Nat, i + m = x.loose.length ∧ looseF x.pages.length (x.loose.drop i) = diskF x ∧ s = ⟨[(1, .c (.pt (d, 1) [] 2 0 0)), (4, I i)], ((d, 1), .own 2 [[.sl r1 q1 1 0 x.pages.length, .sl r2 q2 3 0 x.loose.length]]) :: H, []⟩) (x.loose.length + 1)
      (LK.intro x.loose.length [1, 4] [] (by omega) (by decide) (by simp (maxSteps := 4000000) [hd0, hfr, hout, hcl, hcd, delA_none, a1, a1_n, a1_d, a1_m, a2, a2_n, a2_d, a2_m]) ⟨0, by simp [hd]⟩) ?_
    clear him hP hi m i
    rintro m s ⟨i, him, hF, rfl⟩
    simp (maxSteps := 4000000) [hd0, hfr, hout, hcl, hcd, delA_none, a1, a1_n, a1_d, a1_m, a2, a2_n, a2_d, a2_m]
    constructor
    · intro hi
      have hi' : i < x.loose.length := by omega
      rw [List.drop_eq_getElem_cons hi', looseF] at hF
      have w1 : IntKind.i64.wrap ((i : Int) + 1) = i + 1 := w64 (by omega) (by omega)
      have w2 : IntKind.i64.wrap ((x.pages.length : Int) - 1) = x.pages.length - 1 := w64 (by omega) (by omega)
      refine DrawK.intro 22 [1, 4, 61] rfl (by kernel_rfl) (by decide) ?_
      simp (maxSteps := 4000000) [hd0, hfr, hout, hcl, hcd, delA_none, a1, a1_n, a1_d, a1_m, a2, a2_n, a2_d, a2_m, hi', DLoose.enc, w2]
      refine ⟨_, spec_l1In _ _ _ _, ?_⟩
      by_cases c1 : inR x.loose[i].page 0 (x.pages.length - 1) = true
      case neg => simp only [Bool.not_eq_true] at c1; simp [c1] at hF; simp (maxSteps := 4000000) [hd0, hfr, hout, hcl, hcd, delA_none, a1, a1_n, a1_d, a1_m, a2, a2_n, a2_d, a2_m, c1, hF]
      rw [c1] at hF ⊢
      simp (maxSteps := 4000000) [hd0, hfr, hout, hcl, hcd, delA_none, a1, a1_n, a1_d, a1_m, a2, a2_n, a2_d, a2_m, hi', DLoose.enc, w2]
      refine ⟨_, spec_l1In _ _ _ _, ?_⟩
      by_cases c2 : inR x.loose[i].part 0 2 = true
      case neg => simp only [Bool.not_eq_true] at c2; simp [c2] at hF; simp (maxSteps := 4000000) [hd0, hfr, hout, hcl, hcd, delA_none, a1, a1_n, a1_d, a1_m, a2, a2_n, a2_d, a2_m, c2, hF]
      rw [c2] at hF ⊢
      by_cases c3 : x.loose[i].data.length = 16
      case neg => simp [c3] at hF; simp (maxSteps := 4000000) [hd0, hfr, hout, hcl, hcd, delA_none, a1, a1_n, a1_d, a1_m, a2, a2_n, a2_d, a2_m, hi', DLoose.enc, show ¬ (x.loose[i].data.length : Int) = 16 by omega, hF]
      simp [c3] at hF
      simp (maxSteps := 4000000) [hd0, hfr, hout, hcl, hcd, delA_none, a1, a1_n, a1_d, a1_m, a2, a2_n, a2_d, a2_m, hi', DLoose.enc, c3, w1]
      exact LK.intro (m - 1) [1, 4] [] (by omega) (by decide) (by simp (maxSteps := 4000000) [hd0, hfr, hout, hcl, hcd, delA_none, a1, a1_n, a1_d, a1_m, a2, a2_n, a2_d, a2_m]) ⟨i + 1, by omega, by simpa using hF, by simp⟩
    · intro h
      rw [List.drop_eq_nil_of_le (by omega)] at hF
      simpa [looseF] using hF
end Go.Proofs.Ythejobdlfomcjaa

namespace Go.Proofs.Ythejobdlfomcjaa
open Go Go.Px Go.RowKit Go.Proofs
set_option linter.unnecessarySimpa false
set_option linter.unusedVariables false
set_option linter.unusedSimpArgs false
set_option maxRecDepth 100000
attribute [-simp] Int.not_le Int.not_lt
theorem slices_Clone_byte (H : HH) {r q n} {l : List Int} (hb : l.length ≤ 1048576) (hn : n = l.length) (ha : arrAt H r q = some (1, l.map encU8)) : PFun Try.prog 126 [.c (.sl r q 1 0 n)] H (.c (.own 1 (l.map encU8))) := by
  subst hn
  refine PFun.of [0, 2, 4] Try.func126 rfl (by simp [Try.f126]) ?_
  intro d hd0 hfr hcl hout
  have hcd : ∀ n q, CleanH (hit [((d, n), q)]) H := fun n q => hcl.at
  have ha_n : ∀ n, ¬ (d, n) = r := fun n => nm_ne (ne_of_arr hfr ha)
  have ha_d : ¬ r.1 = d := ne_of_arr hfr ha
  have ha_m : ∀ n, ¬ r = (d, n) := fun n => nm_ne' (ne_of_arr hfr ha)
  simp (maxSteps := 4000000) [hd0, hfr, hout, hcl, hcd, delA_none, ha, ha_n, ha_d, ha_m, Try.f126]
  simp (maxSteps := 4000000) [hd0, hfr, hout, hcl, hcd, delA_none, ha, ha_n, ha_d, ha_m, encU8]
  omega
theorem U8_no {l : List Int} : ∀ x ∈ l.map encU8, ∀ c ∈ x, isOwn c = false := by
  intro x hx c hc
  obtain ⟨n, _, rfl⟩ := List.mem_map.1 hx
  simp [encU8] at hc; subst hc; rfl
theorem U8_clean {l : List Int} : ∀ K, CleanRows K (l.map encU8) := by intro K; simp [encU8, Clean.v]
theorem pages_clean {l : List (List Int)} : ∀ K, CleanRows K (l.map (encS 1 encU8)) := by intro K; simp [encS, encU8, Clean.v]
theorem loose_clean {l : List DLoose} : ∀ K, CleanRows K (l.map DLoose.enc) := by intro K; simp [DLoose.enc, encU8, Clean.v]
theorem impl_Disk_copied (H : HH) {r1 q1 r2 q2} {x : DDisk} (hl : x.le 1048576) (a1 : arrAt H r1 q1 = some (1, x.pages.map (encS 1 encU8))) (a2 : arrAt H r2 q2 = some (3, x.loose.map DLoose.enc)) :
    PFun Try.prog 125 [.a [.sl r1 q1 1 0 x.pages.length, .sl r2 q2 3 0 x.loose.length]] H (.a x.enc) := by
  obtain ⟨⟨b1, b1p⟩, b2, b2p⟩ := hl
  refine PFun.of [1, 2, 3, 5, 7, 10, 11, 12, 13, 25, 26, 27, 28] Try.func125 rfl (by simp [Try.f125]) ?_
  intro d hd0 hfr hcl hout
  have hcd : ∀ n q, CleanH (hit [((d, n), q)]) H := fun n q => hcl.at
  have a1_n : ∀ n, ¬ (d, n) = r1 := fun n => nm_ne (ne_of_arr hfr a1)
  have a1_d : ¬ r1.1 = d := ne_of_arr hfr a1
  have a1_m : ∀ n, ¬ r1 = (d, n) := fun n => nm_ne' (ne_of_arr hfr a1)
  have a2_n : ∀ n, ¬ (d, n) = r2 := fun n => nm_ne (ne_of_arr hfr a2)
  have a2_d : ¬ r2.1 = d := ne_of_arr hfr a2
  have a2_m : ∀ n, ¬ r2 = (d, n) := fun n => nm_ne' (ne_of_arr hfr a2)
  simp (maxSteps := 4000000) [hd0, hfr, hout, hcl, hcd, delA_none, a1, a1_n, a1_d, a1_m, a2, a2_n, a2_d, a2_m, Try.f125]
  refine LoopK.intro (fun m s => ∃ i : Nat, i + m = x.pages.length ∧ s = ⟨[(1, .c (.pt (d, 1) [] 2 0 0)), (2, .c (.pt (d, 2) [] 2 0 0)), (3, .c (.pt (d, 3) [] 2 0 0)), (10, .c (.sl r1 q1 1 0 x.pages.length)), (11, I x.pages.length), (12, I i)],
      ((d, 3), .own 2 [[.own 1 ((x.pages.take i).map (encS 1 encU8)), .own 3 []]]) :: ((d, 2), .own 2 [[.own 1 [], .own 3 []]]) :: ((d, 1), .own 2 [[.sl r1 q1 1 0 x.pages.length, .sl r2 q2 3 0 x.loose.length]]) :: H, []⟩) (x.pages.length + 1)
    (LK.intro x.pages.length [1, 2, 3, 10, 11, 12] [] (by omega) (by decide) (by simp (maxSteps := 4000000) [hd0, hfr, hout, hcl, hcd, delA_none, a1, a1_n, a1_d, a1_m, a2, a2_n, a2_d, a2_m]) ⟨0, by simp⟩) ?_
  rintro m s ⟨i, him, rfl⟩
  simp (maxSteps := 4000000) [hd0, hfr, hout, hcl, hcd, delA_none, a1, a1_n, a1_d, a1_m, a2, a2_n, a2_d, a2_m]
  constructor
  · intro hi
    have hi' : i < x.pages.length := by omega
    have w1 : IntKind.i64.wrap ((i : Int) + 1) = i + 1 := w64 (by omega) (by omega)
    have hpl := b1p _ (List.getElem_mem hi')
    have hsub := arrAt_sub a1 (i := i) (f := 0) (row := encS 1 encU8 x.pages[i]) (by simp [hi']) rfl
    simp (maxSteps := 4000000) [hd0, hfr, hout, hcl, hcd, delA_none, a1, a1_n, a1_d, a1_m, a2, a2_n, a2_d, a2_m, hi', encS]
    refine DrawK.intro 5 [1, 2, 3, 10, 11, 12, 17, 20] rfl (by kernel_rfl) (by decide) ?_
    simp (maxSteps := 4000000) [hd0, hfr, hout, hcl, hcd, delA_none, a1, a1_n, a1_d, a1_m, a2, a2_n, a2_d, a2_m]
    refine ⟨_, slices_Clone_byte _ hpl rfl (by simp (maxSteps := 4000000) [hd0, hfr, hout, hcl, hcd, delA_none, a1, a1_n, a1_d, a1_m, a2, a2_n, a2_d, a2_m, hsub]), ?_⟩
    have hn := take_next (f := encS 1 encU8) hi'
    simp only [encS] at hn
    simp (maxSteps := 4000000) [hd0, hfr, hout, hcl, hcd, delA_none, a1, a1_n, a1_d, a1_m, a2, a2_n, a2_d, a2_m, encS, U8_clean, w1]
    refine ⟨by kernel_rfl, by omega, ?_⟩
    refine LK.intro (m - 1) [1, 2, 3, 10, 11, 12] [] (by omega) (by decide) (by simp (maxSteps := 4000000) [hd0, hfr, hout, hcl, hcd, delA_none, a1, a1_n, a1_d, a1_m, a2, a2_n, a2_d, a2_m]) ⟨i + 1, by omega, by simp [encS, hn]⟩
  · intro h
    refine LoopK.intro (fun m s => ∃ i : Nat, i + m = x.loose.length ∧ s = ⟨[(2, .c (.pt (d, 2) [] 2 0 0)), (3, .c (.pt (d, 3) [] 2 0 0)), (25, .c (.sl r2 q2 3 0 x.loose.length)), (26, I x.loose.length), (27, I i)],
      ((d, 3), .own 2 [[.own 1 (x.pages.map (encS 1 encU8)), .own 3 ((x.loose.take i).map DLoose.enc)]]) :: ((d, 2), .own 2 [[.own 1 [], .own 3 []]]) :: H, []⟩) (x.loose.length + 1)
      (LK.intro x.loose.length [2, 3, 25, 26, 27] [1] (by omega) (by decide) (by simp (maxSteps := 4000000) [hd0, hfr, hout, hcl, hcd, delA_none, a1, a1_n, a1_d, a1_m, a2, a2_n, a2_d, a2_m]) ⟨0, by simp [List.take_of_length_le, h]⟩) ?_
    clear him h m i
    rintro m s ⟨i, him, rfl⟩
    simp (maxSteps := 4000000) [hd0, hfr, hout, hcl, hcd, delA_none, a1, a1_n, a1_d, a1_m, a2, a2_n, a2_d, a2_m]
    constructor
    · intro hi
      have hi' : i < x.loose.length := by omega
      have w1 : IntKind.i64.wrap ((i : Int) + 1) = i + 1 := w64 (by omega) (by omega)
      have hpl : x.loose[i].data.length ≤ 1048576 := b2p _ (List.getElem_mem hi')
      have hsub := arrAt_sub a2 (i := i) (f := 2) (row := x.loose[i].enc) (by simp [hi']) rfl
      simp (maxSteps := 4000000) [hd0, hfr, hout, hcl, hcd, delA_none, a1, a1_n, a1_d, a1_m, a2, a2_n, a2_d, a2_m, hi', DLoose.enc]
      refine (slices_Clone_byte _ hpl rfl (by simp (maxSteps := 4000000) [hd0, hfr, hout, hcl, hcd, delA_none, a1, a1_n, a1_d, a1_m, a2, a2_n, a2_d, a2_m, hsub])).useCK ?_
      have hn := take_next (f := DLoose.enc) hi'
      simp only [DLoose.enc] at hn
      simp (maxSteps := 4000000) [hd0, hfr, hout, hcl, hcd, delA_none, a1, a1_n, a1_d, a1_m, a2, a2_n, a2_d, a2_m, DLoose.enc, U8_clean, w1]
      refine ⟨by omega, ?_⟩
      refine LK.intro (m - 1) [2, 3, 25, 26, 27] [7] (by omega) (by decide) (by simp (maxSteps := 4000000) [hd0, hfr, hout, hcl, hcd, delA_none, a1, a1_n, a1_d, a1_m, a2, a2_n, a2_d, a2_m, DLoose.enc]) ⟨i + 1, by omega, by simp [DLoose.enc, hn]⟩
    · intro h
      simp (maxSteps := 4000000) [hd0, hfr, hout, hcl, hcd, delA_none, a1, a1_n, a1_d, a1_m, a2, a2_n, a2_d, a2_m, DDisk.enc, List.take_of_length_le (show (x.loose.map DLoose.enc).length ≤ i by simpa using h)]
end Go.Proofs.Ythejobdlfomcjaa

namespace Go.Proofs.Ythejobdlfomcjaa
open Go Go.Px Go.RowKit Go.Proofs
set_option linter.unnecessarySimpa false
set_option linter.unusedVariables false
set_option linter.unusedSimpArgs false
set_option maxRecDepth 100000
attribute [-simp] Int.not_le Int.not_lt
/-- k cells of data laid over p from at on -/
def ov (p : List Int) (at_ k : Nat) (data : List Int) : List Int := p.take at_ ++ data.take k ++ p.drop (at_ + k)
theorem ov_zero {p data a} : ov p a 0 data = p := by simp [ov]
theorem ov_length {p data a k} (h : a + k ≤ p.length) (h2 : k ≤ data.length) : (ov p a k data).length = p.length := by simp [ov]; omega
theorem ov_set {p data : List Int} {a k : Nat} (h : a + k < p.length) (h2 : k < data.length) : (ov p a k data).set (a + k) data[k] = ov p a (k + 1) data := by
  have e : (p.take a ++ data.take k).length = a + k := by simp; omega
  unfold ov
  rw [List.drop_eq_getElem_cons h, List.take_succ_eq_append_getElem h2, List.set_append_right _ _ (by omega), e, Nat.sub_self, List.set_cons_zero]
  simp only [List.append_assoc, List.cons_append, List.nil_append, Nat.add_assoc]
def doW (pages : List (List Int)) (pg pt : Nat) (data : List Int) : List (List Int) := pages.set pg (ov (pages.getD pg []) (16 * pt) 16 data)
theorem spec_l2Do (H : HH) {r q c1 r2 q2} {pages : List (List Int)} {data : List Int} {pg pt : Nat} (hb : pages.length ≤ 1048576) (hlt : pg < pages.length) (h48 : pages[pg].length = 48) (hp2 : pt ≤ 2) (hd16 : data.length = 16)
    (ha : arrAt H r q = some (2, [[.own 1 (pages.map (encS 1 encU8)), c1]])) (ha2 : arrAt H r2 q2 = some (1, data.map encU8)) (hne : ¬ r = r2) (h0 : r.1 ≠ 0) (hc1 : ∀ K, Px.Clean K c1) :
    PUpd Try.prog 128 [.c (.pt r q 2 0 0), .a [.v (.int .i64 (pg : Nat)), .v (.int .i64 (pt : Nat)), .sl r2 q2 1 0 16]] H (.t []) (setA H r q (.own 2 [[.own 1 ((doW pages pg pt data).map (encS 1 encU8)), c1]])) := by
  refine PUpd.of [0, 3, 4, 6] Try.func128 rfl (by simp [Try.f128]) ?_
  intro d hd0 hfr hcl hout
  have hcd : ∀ n q, CleanH (hit [((d, n), q)]) H := fun n q => hcl.at
  have ha_n : ∀ n, ¬ (d, n) = r := fun n => nm_ne (ne_of_arr hfr ha)
  have ha_d : ¬ r.1 = d := ne_of_arr hfr ha
  have ha_m : ∀ n, ¬ r = (d, n) := fun n => nm_ne' (ne_of_arr hfr ha)
  have ha2_n : ∀ n, ¬ (d, n) = r2 := fun n => nm_ne (ne_of_arr hfr ha2)
  have ha2_d : ¬ r2.1 = d := ne_of_arr hfr ha2
  have ha2_m : ∀ n, ¬ r2 = (d, n) := fun n => nm_ne' (ne_of_arr hfr ha2)
  simp (maxSteps := 4000000) [hd0, hfr, hout, hcl, hcd, delA_none, ha, ha_n, ha_d, ha_m, ha2, ha2_n, ha2_d, ha2_m, Try.f128]
  refine LoopK.intro (fun m s => ∃ k : Nat, k + m = 16 ∧ s = ⟨[(0, .c (.pt r q 2 0 0)), (3, .c (.pt (d, 3) [] 3 0 0)), (4, I k)], ((d, 3), .own 3 [[.v (.int .i64 (pg : Nat)), .v (.int .i64 (pt : Nat)), .sl r2 q2 1 0 16]]) :: setA H r q (.own 2 [[.own 1 ((pages.set pg (ov pages[pg] (16 * pt) k data)).map (encS 1 encU8)), c1]]), []⟩) (16 + 1)
    (LK.intro 16 [0, 3, 4] [] (by omega) (by decide) (by simp (maxSteps := 4000000) [hd0, hfr, hout, hcl, hcd, delA_none, ha, ha_n, ha_d, ha_m, ha2, ha2_n, ha2_d, ha2_m]) ⟨0, by simp [ov_zero, setA_self ha]⟩) ?_
  rintro m s ⟨k, hkm, rfl⟩
  have hol : (ov pages[pg] (16 * pt) k data).length = 48 := by rw [ov_length (by omega) (by omega), h48]
  by_cases hk' : k < 16
  · obtain ⟨Y, hY⟩ : ∃ Y, Y = (ov pages[pg] (16 * pt) k data).map encU8 := ⟨_, rfl⟩
    obtain ⟨X, hX⟩ : ∃ X, X = (pages.set pg (ov pages[pg] (16 * pt) k data)).map (encS 1 encU8) := ⟨_, rfl⟩
    have hXg : X[pg]? = some [.own 1 Y] := by rw [hX, hY]; simp [hlt, encS]
    have hXl : X.length = pages.length := by rw [hX]; simp
    have hYl : Y.length = 48 := by rw [hY]; simpa using hol
    have hYk : ∃ o, Y[16 * pt + k]? = some [.v (.int .u8 o)] := ⟨(ov pages[pg] (16 * pt) k data)[16 * pt + k], by rw [hY]; simp [encU8]⟩
    obtain ⟨o, hYk⟩ := hYk
    have hXg' := ix_of hXg
    have hYk' := ix_of hYk
    have hnext : X.set pg [.own 1 (Y.set (16 * pt + k) (encU8 data[k]))] = (pages.set pg (ov pages[pg] (16 * pt) (k + 1) data)).map (encS 1 encU8) := by
      rw [hX, hY, ← List.map_set, ov_set (by omega) (by omega)]
      simp [encS]
    rw [← hX]
    have b0 := arrAt_setA (z := 2) (rows := [[.own 1 X, c1]]) ha
    have b1 := arrAt_sub b0 (i := 0) (f := 0) rfl rfl
    have b2 := arrAt_setA_ne (q := q) (q' := q2) (c := .own 2 [[.own 1 X, c1]]) (H := H) hne
    rw [ha2] at b2
    have b3 : arrAt (setA H r q (.own 2 [[.own 1 X, c1]])) r (q ++ [(0, 0)] ++ [(pg, 0)]) = some (1, Y) := arrAt_sub b1 hXg rfl
    have hst : ∀ row, setA (setA H r q (.own 2 [[.own 1 X, c1]])) r (q ++ [(0, 0), (pg, 0)]) (.own 1 (Y.set (16 * pt + k) row)) = setA H r q (.own 2 [[.own 1 (X.set pg [.own 1 (Y.set (16 * pt + k) row)]), c1]]) := fun row => by
      have e1 : q ++ [(0, 0), (pg, 0)] = q ++ [(0, 0)] ++ [(pg, 0)] := by simp
      rw [e1, setA_sub b1 hXg rfl, setA_sub b0 (i := 0) (f := 0) rfl rfl, setA_setA ha]
      rfl
    simp only [List.append_assoc, List.cons_append, List.nil_append] at b3
    have hkd : k < data.length := by omega
    have w1 : IntKind.i64.wrap ((k : Int) + 1) = k + 1 := w64 (by omega) (by omega)
    have w2 : IntKind.i64.wrap ((pt : Int) * 16) = 16 * (pt : Int) := by rw [w64 (by omega) (by omega)]; omega
    obtain ⟨ix, hix⟩ : ∃ ix : Nat, ix = 16 * pt + k := ⟨_, rfl⟩
    have w3 : IntKind.i64.wrap (16 * (pt : Int) + (k : Int)) = (ix : Int) := by rw [w64 (by omega) (by omega)]; omega
    rw [← hix] at hYk hYk' hst hnext
    have hix2 : ix < 48 := by omega
    simp (maxSteps := 4000000) [hd0, hfr, hout, hcl, hcd, delA_none, ha, ha_n, ha_d, ha_m, ha2, ha2_n, ha2_d, ha2_m, show (k : Int) < 16 by omega]
    refine DrawK.intro 19 [0, 3, 4, 26, 27] rfl (by kernel_rfl) (by decide) ?_
    simp only [encU8] at hnext
    simp (maxSteps := 4000000) [hd0, hfr, hout, hcl, hcd, delA_none, ha, ha_n, ha_d, ha_m, ha2, ha2_n, ha2_d, ha2_m, w1, w2, w3, b0, b1, b2, b3, hlt, hd16, hkd, hk', h0, hXg', hXl, hYl, hYk', encU8, hst, hnext, hix2]
    refine ⟨by omega, by omega, ?_⟩
    refine LK.intro (m - 1) [0, 3, 4] [] (by omega) (by decide) (by simp (maxSteps := 4000000) [hd0, hfr, hout, hcl, hcd, delA_none, ha, ha_n, ha_d, ha_m, ha2, ha2_n, ha2_d, ha2_m]) ⟨k + 1, by omega, by simp [encS]⟩
  · have hk : k = 16 := by omega
    subst hk
    have hdw : (pages.set pg (ov pages[pg] (16 * pt) 16 data)) = doW pages pg pt data := by simp [doW, hlt]
    rw [hdw]
    have hc' := CleanH_setA (q := q) (r := r) (c := .own 2 [[.own 1 ((doW pages pg pt data).map (encS 1 encU8)), c1]]) hcl (by rw [Clean_ownR]; simp [hc1])
    simp (maxSteps := 4000000) [hd0, hfr, hout, hcl, hcd, delA_none, ha, ha_n, ha_d, ha_m, ha2, ha2_n, ha2_d, ha2_m, show ¬ ((16 : Nat) : Int) < 16 by omega, outH_setA, hc']
end Go.Proofs.Ythejobdlfomcjaa

namespace Go.Proofs.Ythejobdlfomcjaa
open Go Go.Px Go.RowKit Go.Proofs
set_option linter.unnecessarySimpa false
set_option linter.unusedVariables false
set_option linter.unusedSimpArgs false
set_option maxRecDepth 100000
attribute [-simp] Int.not_le Int.not_lt
theorem spec_l2Copy (H : HH) {r1 q1 r2 q2} {x : DDisk} (hl : x.le 1048576) (a1 : arrAt H r1 q1 = some (1, x.pages.map (encS 1 encU8))) (a2 : arrAt H r2 q2 = some (3, x.loose.map DLoose.enc)) :
    PFun Try.prog 127 [.a [.sl r1 q1 1 0 x.pages.length, .sl r2 q2 3 0 x.loose.length]] H (.a x.enc) := by
  obtain ⟨⟨b1, b1p⟩, b2, b2p⟩ := hl
  refine PFun.of [1, 2, 3, 4, 5, 6, 12, 31] Try.func127 rfl (by simp [Try.f127]) ?_
  intro d hd0 hfr hcl hout
  have hcd : ∀ n q, CleanH (hit [((d, n), q)]) H := fun n q => hcl.at
  have a1_n : ∀ n, ¬ (d, n) = r1 := fun n => nm_ne (ne_of_arr hfr a1)
  have a1_d : ¬ r1.1 = d := ne_of_arr hfr a1
  have a1_m : ∀ n, ¬ r1 = (d, n) := fun n => nm_ne' (ne_of_arr hfr a1)
  have a2_n : ∀ n, ¬ (d, n) = r2 := fun n => nm_ne (ne_of_arr hfr a2)
  have a2_d : ¬ r2.1 = d := ne_of_arr hfr a2
  have a2_m : ∀ n, ¬ r2 = (d, n) := fun n => nm_ne' (ne_of_arr hfr a2)
  simp (maxSteps := 4000000) [hd0, hfr, hout, hcl, hcd, delA_none, a1, a1_n, a1_d, a1_m, a2, a2_n, a2_d, a2_m, Try.f127]
  refine LoopK.intro (fun m s => ∃ i : Nat, i + m = x.pages.length ∧ s = ⟨[(1, .c (.pt (d, 1) [] 2 0 0)), (2, .c (.pt (d, 2) [] 2 0 0)), (3, .c (.pt (d, 3) [] 2 0 0)), (4, I i)],
      ((d, 3), .own 2 [[.own 1 ((x.pages.take i).map (encS 1 encU8)), .own 3 []]]) :: ((d, 2), .own 2 [[.own 1 [], .own 3 []]]) :: ((d, 1), .own 2 [[.sl r1 q1 1 0 x.pages.length, .sl r2 q2 3 0 x.loose.length]]) :: H, []⟩) (x.pages.length + 1)
    (LK.intro x.pages.length [1, 2, 3, 4] [] (by omega) (by decide) (by simp (maxSteps := 4000000) [hd0, hfr, hout, hcl, hcd, delA_none, a1, a1_n, a1_d, a1_m, a2, a2_n, a2_d, a2_m]) ⟨0, by simp⟩) ?_
  rintro m s ⟨i, him, rfl⟩
  simp (maxSteps := 4000000) [hd0, hfr, hout, hcl, hcd, delA_none, a1, a1_n, a1_d, a1_m, a2, a2_n, a2_d, a2_m]
  constructor
  · intro hi
    have hi' : i < x.pages.length := by omega
    have w1 : IntKind.i64.wrap ((i : Int) + 1) = i + 1 := w64 (by omega) (by omega)
    have hpl := b1p _ (List.getElem_mem hi')
    have hsub := arrAt_sub a1 (i := i) (f := 0) (row := encS 1 encU8 x.pages[i]) (by simp [hi']) rfl
    have hn := take_next (f := encS 1 encU8) hi'
    simp only [encS] at hn
    refine DrawK.intro 10 [1, 2, 3, 4, 16, 24] rfl (by kernel_rfl) (by decide) ?_
    simp (maxSteps := 4000000) [hd0, hfr, hout, hcl, hcd, delA_none, a1, a1_n, a1_d, a1_m, a2, a2_n, a2_d, a2_m, hi', encS, hsub, encU8, w1]
    refine ⟨by kernel_rfl, by omega, by kernel_rfl, by omega, ?_⟩
    refine LK.intro (m - 1) [1, 2, 3, 4] [] (by omega) (by decide) (by simp (maxSteps := 4000000) [hd0, hfr, hout, hcl, hcd, delA_none, a1, a1_n, a1_d, a1_m, a2, a2_n, a2_d, a2_m]) ⟨i + 1, by omega, by simp [encS, encU8, hn]⟩
  · intro h
    refine LoopK.intro (fun m s => ∃ i : Nat, i + m = x.loose.length ∧ s = ⟨[(1, .c (.pt (d, 1) [] 2 0 0)), (2, .c (.pt (d, 2) [] 2 0 0)), (3, .c (.pt (d, 3) [] 2 0 0)), (5, I i)],
      ((d, 3), .own 2 [[.own 1 (x.pages.map (encS 1 encU8)), .own 3 ((x.loose.take i).map DLoose.enc)]]) :: ((d, 2), .own 2 [[.own 1 [], .own 3 []]]) :: ((d, 1), .own 2 [[.sl r1 q1 1 0 x.pages.length, .sl r2 q2 3 0 x.loose.length]]) :: H, []⟩) (x.loose.length + 1)
      (LK.intro x.loose.length [1, 2, 3, 5] [] (by omega) (by decide) (by simp (maxSteps := 4000000) [hd0, hfr, hout, hcl, hcd, delA_none, a1, a1_n, a1_d, a1_m, a2, a2_n, a2_d, a2_m]) ⟨0, by simp [List.take_of_length_le, h]⟩) ?_
    clear him h m i
    rintro m s ⟨i, him, rfl⟩
    simp (maxSteps := 4000000) [hd0, hfr, hout, hcl, hcd, delA_none, a1, a1_n, a1_d, a1_m, a2, a2_n, a2_d, a2_m]
    constructor
    · intro hi
      have hi' : i < x.loose.length := by omega
      have w1 : IntKind.i64.wrap ((i : Int) + 1) = i + 1 := w64 (by omega) (by omega)
      have hpl : x.loose[i].data.length ≤ 1048576 := b2p _ (List.getElem_mem hi')
      have hsub := arrAt_sub a2 (i := i) (f := 2) (row := x.loose[i].enc) (by simp [hi']) rfl
      have hn := take_next (f := DLoose.enc) hi'
      simp only [DLoose.enc] at hn
      simp (maxSteps := 4000000) [hd0, hfr, hout, hcl, hcd, delA_none, a1, a1_n, a1_d, a1_m, a2, a2_n, a2_d, a2_m, hi', DLoose.enc, hsub, encU8, w1]
      refine ⟨by omega, by omega, ?_⟩
      refine LK.intro (m - 1) [1, 2, 3, 5] [6] (by omega) (by decide) (by simp (maxSteps := 4000000) [hd0, hfr, hout, hcl, hcd, delA_none, a1, a1_n, a1_d, a1_m, a2, a2_n, a2_d, a2_m, DLoose.enc]) ⟨i + 1, by omega, by simp [DLoose.enc, encU8, hn]⟩
    · intro h
      simp (maxSteps := 4000000) [hd0, hfr, hout, hcl, hcd, delA_none, a1, a1_n, a1_d, a1_m, a2, a2_n, a2_d, a2_m, DDisk.enc, List.take_of_length_le (show (x.loose.map DLoose.enc).length ≤ i by simpa using h)]
def doF (pages : List (List Int)) (l : List DLoose) : List (List Int) := l.foldl (fun ps w => doW ps w.page.toNat w.part.toNat w.data) pages
def Wok (n : Nat) (w : DLoose) : Prop := 0 ≤ w.page ∧ w.page < n ∧ 0 ≤ w.part ∧ w.part ≤ 2 ∧ w.data.length = 16
theorem doW_len {ps : List (List Int)} {pg pt data} : (doW ps pg pt data).length = ps.length := by simp [doW]
theorem doW_48 {ps : List (List Int)} {pg pt data} (h : ∀ p ∈ ps, p.length = 48) (hd : data.length = 16) (hp : pt ≤ 2) : ∀ p ∈ doW ps pg pt data, p.length = 48 := by
  intro p hpm
  by_cases hl : pg < ps.length
  · unfold doW at hpm
    rcases List.mem_or_eq_of_mem_set hpm with h' | rfl
    · exact h p h'
    · have h48 := h _ (List.getElem_mem hl)
      rw [List.getD_eq_getElem?_getD, List.getElem?_eq_getElem hl, Option.getD_some, ov_length (by omega) (by omega)]; exact h48
  · unfold doW at hpm
    rw [List.set_eq_of_length_le (by omega)] at hpm
    exact h _ hpm
theorem doF_len {ps : List (List Int)} {l} : (doF ps l).length = ps.length := by
  induction l generalizing ps with
  | nil => rfl
  | cons w l ih => simp only [doF, List.foldl_cons] at ih ⊢; rw [ih, doW_len]
theorem doF_48 {ps : List (List Int)} {n : Nat} {l : List DLoose} (h : ∀ p ∈ ps, p.length = 48) (hw : ∀ w ∈ l, Wok n w) : ∀ p ∈ doF ps l, p.length = 48 := by
  induction l generalizing ps with
  | nil => exact h
  | cons w l ih =>
    simp only [doF, List.foldl_cons] at ih ⊢
    obtain ⟨w1, w2, w3, w4, w5⟩ := hw w (by simp)
    exact ih (doW_48 h w5 (by omega)) (fun w hw' => hw w (by simp [hw']))
theorem doF_take {ps : List (List Int)} {l : List DLoose} {i : Nat} (h : i < l.length) : doF ps (l.take (i + 1)) = doW (doF ps (l.take i)) l[i].page.toNat l[i].part.toNat l[i].data := by
  rw [List.take_succ_eq_append_getElem h]; simp only [doF, List.foldl_append, List.foldl_cons, List.foldl_nil]
end Go.Proofs.Ythejobdlfomcjaa

namespace Go.Proofs.Ythejobdlfomcjaa
open Go Go.Px Go.RowKit Go.Proofs
set_option linter.unnecessarySimpa false
set_option linter.unusedVariables false
set_option linter.unusedSimpArgs false
set_option maxRecDepth 100000
attribute [-simp] Int.not_le Int.not_lt
theorem ov_rows {p data : List Int} {a : Nat} (h : a + 16 ≤ p.length) (hd : data.length = 16) : (p.map encU8).take a ++ (data.map encU8).flatten.map (fun c => [c]) ++ (p.map encU8).drop (a + 16) = (ov p a 16 data).map encU8 := by
  have e : ∀ l : List Int, (l.map encU8).flatten.map (fun c => [c]) = l.map encU8 := by
    intro l; induction l with
    | nil => rfl
    | cons a l ih => simpa [encU8] using ih
  rw [e]; simp [ov, List.take_of_length_le (show data.length ≤ 16 by omega)]
theorem U8_row {p : List Int} : ∀ row ∈ p.map encU8, ∃ c, row = [c] ∧ isOwn c = false := by
  intro row h; obtain ⟨n, _, rfl⟩ := List.mem_map.1 h; exact ⟨_, rfl, rfl⟩
theorem U8_flat {p : List Int} : ∀ c ∈ (p.map encU8).flatten, isOwn c = false := by
  intro c h
  obtain ⟨row, hr, hc⟩ := List.mem_flatten.1 h
  obtain ⟨n, _, rfl⟩ := List.mem_map.1 hr
  simp [encU8] at hc; subst hc; rfl
theorem U8_flen {p : List Int} : (p.map encU8).flatten.length = p.length := by
  induction p with
  | nil => rfl
  | cons a l ih => simp [encU8] at ih ⊢; omega
theorem ov_rows2 {p data : List Int} {a : Nat} (h : a + 16 ≤ p.length) (hd : data.length = 16) : (p.map encU8).take a ++ (data.map encU8).flatten.map (fun c => [c]) ++ (p.map encU8).drop (a + (data.map encU8).flatten.length) = (ov p a 16 data).map encU8 := by
  rw [U8_flen, hd, ov_rows h hd]
theorem impl_Disk_done (H : HH) {r1 q1 r2 q2 r3 q3} {x : DDisk} {l : List DLoose} (hl : x.le 1048576) (hll : l.length ≤ 1048576) (h48 : ∀ p ∈ x.pages, p.length = 48) (hw : ∀ w ∈ l, Wok x.pages.length w)
    (a1 : arrAt H r1 q1 = some (1, x.pages.map (encS 1 encU8))) (a2 : arrAt H r2 q2 = some (3, x.loose.map DLoose.enc)) (a3 : arrAt H r3 q3 = some (3, l.map DLoose.enc)) :
    PFun Try.prog 101 [.a [.sl r1 q1 1 0 x.pages.length, .sl r2 q2 3 0 x.loose.length], .c (.sl r3 q3 3 0 l.length)] H (.a (DDisk.mk (doF x.pages l) []).enc) := by
  have hl' := hl
  obtain ⟨⟨b1, b1p⟩, b2, b2p⟩ := hl'
  refine PFun.of [1, 2, 4, 5, 7, 11, 12, 13, 14] Try.func101 rfl (by simp [Try.f101]) ?_
  intro d hd0 hfr hcl hout
  have hcd : ∀ n q, CleanH (hit [((d, n), q)]) H := fun n q => hcl.at
  have a1_n : ∀ n, ¬ (d, n) = r1 := fun n => nm_ne (ne_of_arr hfr a1)
  have a1_d : ¬ r1.1 = d := ne_of_arr hfr a1
  have a1_m : ∀ n, ¬ r1 = (d, n) := fun n => nm_ne' (ne_of_arr hfr a1)
  have a2_n : ∀ n, ¬ (d, n) = r2 := fun n => nm_ne (ne_of_arr hfr a2)
  have a2_d : ¬ r2.1 = d := ne_of_arr hfr a2
  have a2_m : ∀ n, ¬ r2 = (d, n) := fun n => nm_ne' (ne_of_arr hfr a2)
  have a3_n : ∀ n, ¬ (d, n) = r3 := fun n => nm_ne (ne_of_arr hfr a3)
  have a3_d : ¬ r3.1 = d := ne_of_arr hfr a3
  have a3_m : ∀ n, ¬ r3 = (d, n) := fun n => nm_ne' (ne_of_arr hfr a3)
  simp (maxSteps := 4000000) [hd0, hfr, hout, hcl, hcd, delA_none, a1, a1_n, a1_d, a1_m, a2, a2_n, a2_d, a2_m, a3, a3_n, a3_d, a3_m, Try.f101]
  refine (impl_Disk_copied _ hl (by simp (maxSteps := 4000000) [hd0, hfr, hout, hcl, hcd, delA_none, a1, a1_n, a1_d, a1_m, a2, a2_n, a2_d, a2_m, a3, a3_n, a3_d, a3_m]) (by simp (maxSteps := 4000000) [hd0, hfr, hout, hcl, hcd, delA_none, a1, a1_n, a1_d, a1_m, a2, a2_n, a2_d, a2_m, a3, a3_n, a3_d, a3_m])).useCK ?_
  simp (maxSteps := 4000000) [hd0, hfr, hout, hcl, hcd, delA_none, a1, a1_n, a1_d, a1_m, a2, a2_n, a2_d, a2_m, a3, a3_n, a3_d, a3_m, DDisk.enc]
  refine LoopK.intro (fun m s => ∃ i : Nat, i + m = l.length ∧ s = ⟨[(4, .c (.pt (d, 4) [] 2 0 0)), (5, .c (.pt (d, 5) [] 2 0 0)), (11, .c (.sl r3 q3 3 0 l.length)), (12, I l.length), (13, I i)],
      ((d, 5), .own 2 [[.own 1 ((doF x.pages (l.take i)).map (encS 1 encU8)), .own 3 []]]) :: ((d, 4), .own 2 [[.own 1 [], .own 3 []]]) :: H, []⟩) (l.length + 1)
    (LK.intro l.length [4, 5, 11, 12, 13] [2] (by omega) (by decide) (by simp (maxSteps := 4000000) [hd0, hfr, hout, hcl, hcd, delA_none, a1, a1_n, a1_d, a1_m, a2, a2_n, a2_d, a2_m, a3, a3_n, a3_d, a3_m]) ⟨0, by simp [doF]⟩) ?_
  rintro m s ⟨i, him, rfl⟩
  by_cases hi' : i < l.length
  · have w1 : IntKind.i64.wrap ((i : Int) + 1) = i + 1 := w64 (by omega) (by omega)
    obtain ⟨v1, v2, v3, v4, v5⟩ := hw _ (List.getElem_mem hi')
    obtain ⟨pg, hpg⟩ := Int.eq_ofNat_of_zero_le v1
    obtain ⟨pt, hpt⟩ := Int.eq_ofNat_of_zero_le v3
    have hlen := doF_len (ps := x.pages) (l := l.take i)
    have h48' := doF_48 (l := l.take i) h48 (fun w hm => hw w (List.mem_of_mem_take hm))
    have hpl : pg < (doF x.pages (l.take i)).length := by omega
    have hp48 := h48' _ (List.getElem_mem hpl)
    have hsub := arrAt_sub a3 (i := i) (f := 2) (row := l[i].enc) (by simp [hi']) rfl
    have w2 : IntKind.i64.wrap (16 * (pt : Int)) = 16 * (pt : Int) := w64 (by omega) (by omega)
    obtain ⟨at_, hat⟩ : ∃ a : Nat, a = 16 * pt := ⟨_, rfl⟩
    have w3 : IntKind.i64.wrap (16 * (pt : Int)) = (at_ : Int) := by rw [w2]; omega
    have hnx := doF_take (ps := x.pages) hi'
    rw [hpg, hpt, Int.toNat_natCast, Int.toNat_natCast, doW, List.getD_eq_getElem?_getD, List.getElem?_eq_getElem hpl, Option.getD_some] at hnx
    simp (maxSteps := 4000000) [hd0, hfr, hout, hcl, hcd, delA_none, a1, a1_n, a1_d, a1_m, a2, a2_n, a2_d, a2_m, a3, a3_n, a3_d, a3_m, show (i : Int) < l.length by omega, hi', DLoose.enc, hpg, hpt]
    refine DrawK.intro 12 [4, 5, 11, 12, 13, 26, 28] rfl (by kernel_rfl) (by decide) ?_
    simp (maxSteps := 4000000) [hd0, hfr, hout, hcl, hcd, delA_none, a1, a1_n, a1_d, a1_m, a2, a2_n, a2_d, a2_m, a3, a3_n, a3_d, a3_m, w3, hi', DLoose.enc, hpg, hpt, hpl, encS, hp48, hsub]
    refine ⟨by omega, fun a _ c hc => by simp [encU8] at hc; subst hc; rfl, ?_⟩
    have htk : List.take (48 - at_) (List.map encU8 l[i].data).flatten = (List.map encU8 l[i].data).flatten := List.take_of_length_le (by rw [U8_flen]; omega)
    rw [htk]
    refine CopyTo_rows (rows := ((doF x.pages (l.take i))[pg]).map encU8) (by simp (maxSteps := 4000000) [hd0, hfr, hout, hcl, hcd, delA_none, a1, a1_n, a1_d, a1_m, a2, a2_n, a2_d, a2_m, a3, a3_n, a3_d, a3_m, hpl, encS]) U8_row U8_flat (by rw [U8_flen]; simp; omega) ?_
    rw [ov_rows2 (by omega) v5]
    rw [← hat] at hnx
    simp (maxSteps := 4000000) [hd0, hfr, hout, hcl, hcd, delA_none, a1, a1_n, a1_d, a1_m, a2, a2_n, a2_d, a2_m, a3, a3_n, a3_d, a3_m, hpl, encS, w1]
    refine LK.intro (m - 1) [4, 5, 11, 12, 13] [7] (by omega) (by decide) (by simp (maxSteps := 4000000) [hd0, hfr, hout, hcl, hcd, delA_none, a1, a1_n, a1_d, a1_m, a2, a2_n, a2_d, a2_m, a3, a3_n, a3_d, a3_m]) ⟨i + 1, by omega, by simp [hnx, encS]⟩
  · simp (maxSteps := 4000000) [hd0, hfr, hout, hcl, hcd, delA_none, a1, a1_n, a1_d, a1_m, a2, a2_n, a2_d, a2_m, a3, a3_n, a3_d, a3_m, show ¬ (i : Int) < l.length by omega, DDisk.enc, List.take_of_length_le (show l.length ≤ i by omega)]
end Go.Proofs.Ythejobdlfomcjaa

namespace Go.Proofs.Ythejobdlfomcjaa
open Go Go.Px Go.RowKit Go.Proofs
set_option linter.unnecessarySimpa false
set_option linter.unusedVariables false
set_option linter.unusedSimpArgs false
set_option maxRecDepth 100000
attribute [-simp] Int.not_le Int.not_lt
theorem spec_l2Sync (H : HH) {r1 q1 r2 q2} {x : DDisk} (hl : x.le 1048576) (h48 : ∀ p ∈ x.pages, p.length = 48) (hw : ∀ w ∈ x.loose, Wok x.pages.length w)
    (a1 : arrAt H r1 q1 = some (1, x.pages.map (encS 1 encU8))) (a2 : arrAt H r2 q2 = some (3, x.loose.map DLoose.enc)) :
    PFun Try.prog 98 [.a [.sl r1 q1 1 0 x.pages.length, .sl r2 q2 3 0 x.loose.length]] H (.a (DDisk.mk (doF x.pages x.loose) []).enc) := by
  have hl' := hl
  obtain ⟨⟨b1, b1p⟩, b2, b2p⟩ := hl'
  refine PFun.of [1, 2, 3, 4, 11] Try.func98 rfl (by simp [Try.f98]) ?_
  intro d hd0 hfr hcl hout
  have hcd : ∀ n q, CleanH (hit [((d, n), q)]) H := fun n q => hcl.at
  have a1_n : ∀ n, ¬ (d, n) = r1 := fun n => nm_ne (ne_of_arr hfr a1)
  have a1_d : ¬ r1.1 = d := ne_of_arr hfr a1
  have a1_m : ∀ n, ¬ r1 = (d, n) := fun n => nm_ne' (ne_of_arr hfr a1)
  have a2_n : ∀ n, ¬ (d, n) = r2 := fun n => nm_ne (ne_of_arr hfr a2)
  have a2_d : ¬ r2.1 = d := ne_of_arr hfr a2
  have a2_m : ∀ n, ¬ r2 = (d, n) := fun n => nm_ne' (ne_of_arr hfr a2)
  simp (maxSteps := 4000000) [hd0, hfr, hout, hcl, hcd, delA_none, a1, a1_n, a1_d, a1_m, a2, a2_n, a2_d, a2_m, Try.f98]
  refine (spec_l2Copy _ hl (by simp (maxSteps := 4000000) [hd0, hfr, hout, hcl, hcd, delA_none, a1, a1_n, a1_d, a1_m, a2, a2_n, a2_d, a2_m]) (by simp (maxSteps := 4000000) [hd0, hfr, hout, hcl, hcd, delA_none, a1, a1_n, a1_d, a1_m, a2, a2_n, a2_d, a2_m])).useCK ?_
  simp (maxSteps := 4000000) [hd0, hfr, hout, hcl, hcd, delA_none, a1, a1_n, a1_d, a1_m, a2, a2_n, a2_d, a2_m, DDisk.enc]
  refine LoopK.intro (fun m s => ∃ i : Nat, i + m = x.loose.length ∧ s = ⟨[(1, .c (.pt (d, 1) [] 2 0 0)), (2, .c (.pt (d, 2) [] 2 0 0)), (3, .c (.pt (d, 3) [] 2 0 0)), (4, I i)],
      ((d, 3), .own 2 [[.own 1 ((doF x.pages (x.loose.take i)).map (encS 1 encU8)), .own 3 (x.loose.map DLoose.enc)]]) :: ((d, 2), .own 2 [[.own 1 [], .own 3 []]]) :: ((d, 1), .own 2 [[.sl r1 q1 1 0 x.pages.length, .sl r2 q2 3 0 x.loose.length]]) :: H, []⟩) (x.loose.length + 1)
    (LK.intro x.loose.length [1, 2, 3, 4] [] (by omega) (by decide) (by simp (maxSteps := 4000000) [hd0, hfr, hout, hcl, hcd, delA_none, a1, a1_n, a1_d, a1_m, a2, a2_n, a2_d, a2_m]) ⟨0, by simp [doF]⟩) ?_
  rintro m s ⟨i, him, rfl⟩
  by_cases hi' : i < x.loose.length
  · have w1 : IntKind.i64.wrap ((i : Int) + 1) = i + 1 := w64 (by omega) (by omega)
    obtain ⟨v1, v2, v3, v4, v5⟩ := hw _ (List.getElem_mem hi')
    obtain ⟨pg, hpg⟩ := Int.eq_ofNat_of_zero_le v1
    obtain ⟨pt, hpt⟩ := Int.eq_ofNat_of_zero_le v3
    have hlen := doF_len (ps := x.pages) (l := x.loose.take i)
    have h48' := doF_48 (l := x.loose.take i) h48 (fun w hm => hw w (List.mem_of_mem_take hm))
    have hpl : pg < (doF x.pages (x.loose.take i)).length := by omega
    have hp48 := h48' _ (List.getElem_mem hpl)
    have hsub := arrAt_sub a2 (i := i) (f := 2) (row := x.loose[i].enc) (by simp [hi']) rfl
    have hnx := doF_take (ps := x.pages) hi'
    rw [hpg, hpt, Int.toNat_natCast, Int.toNat_natCast] at hnx
    simp (maxSteps := 4000000) [hd0, hfr, hout, hcl, hcd, delA_none, a1, a1_n, a1_d, a1_m, a2, a2_n, a2_d, a2_m, show (i : Int) < x.loose.length by omega, hi', DLoose.enc, hpg, hpt, v5]
    refine (spec_l2Do _ (r := (d, 3)) (q := []) (c1 := .own 3 (x.loose.map DLoose.enc)) (pages := doF x.pages (x.loose.take i)) (data := x.loose[i].data) (pg := pg) (pt := pt) (by omega) hpl hp48 (by omega) v5 (by simp (maxSteps := 4000000) [hd0, hfr, hout, hcl, hcd, delA_none, a1, a1_n, a1_d, a1_m, a2, a2_n, a2_d, a2_m]) (by simp (maxSteps := 4000000) [hd0, hfr, hout, hcl, hcd, delA_none, a1, a1_n, a1_d, a1_m, a2, a2_n, a2_d, a2_m, hsub]) (a2_n 3) hd0 (fun K => by rw [Clean_ownR]; simp)).useCK ?_
    simp (maxSteps := 4000000) [hd0, hfr, hout, hcl, hcd, delA_none, a1, a1_n, a1_d, a1_m, a2, a2_n, a2_d, a2_m, w1]
    refine LK.intro (m - 1) [1, 2, 3, 4] [] (by omega) (by decide) (by simp (maxSteps := 4000000) [hd0, hfr, hout, hcl, hcd, delA_none, a1, a1_n, a1_d, a1_m, a2, a2_n, a2_d, a2_m]) ⟨i + 1, by omega, by simp [hnx]⟩
  · simp (maxSteps := 4000000) [hd0, hfr, hout, hcl, hcd, delA_none, a1, a1_n, a1_d, a1_m, a2, a2_n, a2_d, a2_m, show ¬ (i : Int) < x.loose.length by omega, DDisk.enc, List.take_of_length_le (show x.loose.length ≤ i by omega)]
/-- a right disk -/
theorem looseF_ok {n : Nat} : ∀ {l : List DLoose}, looseF n l = 0 → ∀ w ∈ l, Wok n w
  | [], _, w, h => by simp at h
  | v :: l, hf, w, h => by
    unfold looseF at hf
    split at hf
    · simp at hf
    · rename_i h1
      split at hf
      · simp at hf
      · rename_i h2
        rcases List.mem_cons.1 h with rfl | h
        · simp [inR] at h1
          refine ⟨h1.1.1, ?_, h1.2.1, h1.2.2, by omega⟩
          have := h1.1.2
          omega
        · exact looseF_ok hf w h
theorem diskF_ok {x : DDisk} (h : diskF x = 0) : (∀ p ∈ x.pages, p.length = 48) ∧ (∀ w ∈ x.loose, Wok x.pages.length w) ∧ 1 ≤ x.pages.length ∧ x.pages.length ≤ 8 ∧ x.loose.length ≤ 60 := by
  unfold diskF at h
  split at h
  · simp at h
  · rename_i h1
    split at h
    · simp at h
    · rename_i h2
      simp only [not_or] at h1
      refine ⟨fun p hp => ?_, looseF_ok h, by omega, by omega, by omega⟩
      have := h1.2.2
      simp only [List.any_eq_true, decide_eq_true_eq, not_exists, not_and] at this
      exact Classical.not_not.1 (this p hp)
def syncF (x : DDisk) : DDiskResult := if diskF x ≠ 0 then ⟨diskF x, ⟨[], []⟩⟩ else ⟨0, ⟨doF x.pages x.loose, []⟩⟩
theorem spec_SyncDisk (H : HH) {r1 q1 r2 q2} {x : DDisk} (hl : x.le 1048576) (a1 : arrAt H r1 q1 = some (1, x.pages.map (encS 1 encU8))) (a2 : arrAt H r2 q2 = some (3, x.loose.map DLoose.enc)) :
    PFun Try.prog 20 [.a [.sl r1 q1 1 0 x.pages.length, .sl r2 q2 3 0 x.loose.length]] H (.a (syncF x).enc) := by
  refine PFun.of [1, 2, 3, 7] Try.func20 rfl (by simp [Try.f20]) ?_
  intro d hd0 hfr hcl hout
  have hcd : ∀ n q, CleanH (hit [((d, n), q)]) H := fun n q => hcl.at
  have a1_n : ∀ n, ¬ (d, n) = r1 := fun n => nm_ne (ne_of_arr hfr a1)
  have a1_d : ¬ r1.1 = d := ne_of_arr hfr a1
  have a1_m : ∀ n, ¬ r1 = (d, n) := fun n => nm_ne' (ne_of_arr hfr a1)
  have a2_n : ∀ n, ¬ (d, n) = r2 := fun n => nm_ne (ne_of_arr hfr a2)
  have a2_d : ¬ r2.1 = d := ne_of_arr hfr a2
  have a2_m : ∀ n, ¬ r2 = (d, n) := fun n => nm_ne' (ne_of_arr hfr a2)
  simp (maxSteps := 4000000) [hd0, hfr, hout, hcl, hcd, delA_none, a1, a1_n, a1_d, a1_m, a2, a2_n, a2_d, a2_m, Try.f20]
  refine (spec_DiskFault _ hl (by simp (maxSteps := 4000000) [hd0, hfr, hout, hcl, hcd, delA_none, a1, a1_n, a1_d, a1_m, a2, a2_n, a2_d, a2_m]) (by simp (maxSteps := 4000000) [hd0, hfr, hout, hcl, hcd, delA_none, a1, a1_n, a1_d, a1_m, a2, a2_n, a2_d, a2_m])).useCK ?_
  simp (maxSteps := 4000000) [hd0, hfr, hout, hcl, hcd, delA_none, a1, a1_n, a1_d, a1_m, a2, a2_n, a2_d, a2_m]
  by_cases h : diskF x = 0
  · obtain ⟨h48, hw, _⟩ := diskF_ok h
    simp (maxSteps := 4000000) [hd0, hfr, hout, hcl, hcd, delA_none, a1, a1_n, a1_d, a1_m, a2, a2_n, a2_d, a2_m, h]
    refine (spec_l2Sync _ hl h48 hw (by simp (maxSteps := 4000000) [hd0, hfr, hout, hcl, hcd, delA_none, a1, a1_n, a1_d, a1_m, a2, a2_n, a2_d, a2_m]) (by simp (maxSteps := 4000000) [hd0, hfr, hout, hcl, hcd, delA_none, a1, a1_n, a1_d, a1_m, a2, a2_n, a2_d, a2_m])).useCK ?_
    simp (maxSteps := 4000000) [hd0, hfr, hout, hcl, hcd, delA_none, a1, a1_n, a1_d, a1_m, a2, a2_n, a2_d, a2_m, DDisk.enc, syncF, DDiskResult.enc, h]
  · simp (maxSteps := 4000000) [hd0, hfr, hout, hcl, hcd, delA_none, a1, a1_n, a1_d, a1_m, a2, a2_n, a2_d, a2_m, h, syncF, DDiskResult.enc]
theorem impl_SyncDisk (H : HH) {r1 q1 r2 q2} {x : DDisk} (hl : x.le 1048576) (a1 : arrAt H r1 q1 = some (1, x.pages.map (encS 1 encU8))) (a2 : arrAt H r2 q2 = some (3, x.loose.map DLoose.enc)) :
    PFun Try.prog 22 [.a [.sl r1 q1 1 0 x.pages.length, .sl r2 q2 3 0 x.loose.length]] H (.a (syncF x).enc) := by
  refine PFun.of [1, 2, 3, 7] Try.func22 rfl (by simp [Try.f22]) ?_
  intro d hd0 hfr hcl hout
  have hcd : ∀ n q, CleanH (hit [((d, n), q)]) H := fun n q => hcl.at
  have a1_n : ∀ n, ¬ (d, n) = r1 := fun n => nm_ne (ne_of_arr hfr a1)
  have a1_d : ¬ r1.1 = d := ne_of_arr hfr a1
  have a1_m : ∀ n, ¬ r1 = (d, n) := fun n => nm_ne' (ne_of_arr hfr a1)
  have a2_n : ∀ n, ¬ (d, n) = r2 := fun n => nm_ne (ne_of_arr hfr a2)
  have a2_d : ¬ r2.1 = d := ne_of_arr hfr a2
  have a2_m : ∀ n, ¬ r2 = (d, n) := fun n => nm_ne' (ne_of_arr hfr a2)
  simp (maxSteps := 4000000) [hd0, hfr, hout, hcl, hcd, delA_none, a1, a1_n, a1_d, a1_m, a2, a2_n, a2_d, a2_m, Try.f22]
  refine (impl_DiskFault _ hl (by simp (maxSteps := 4000000) [hd0, hfr, hout, hcl, hcd, delA_none, a1, a1_n, a1_d, a1_m, a2, a2_n, a2_d, a2_m]) (by simp (maxSteps := 4000000) [hd0, hfr, hout, hcl, hcd, delA_none, a1, a1_n, a1_d, a1_m, a2, a2_n, a2_d, a2_m])).useCK ?_
  simp (maxSteps := 4000000) [hd0, hfr, hout, hcl, hcd, delA_none, a1, a1_n, a1_d, a1_m, a2, a2_n, a2_d, a2_m]
  by_cases h : diskF x = 0
  · obtain ⟨h48, hw, _⟩ := diskF_ok h
    simp (maxSteps := 4000000) [hd0, hfr, hout, hcl, hcd, delA_none, a1, a1_n, a1_d, a1_m, a2, a2_n, a2_d, a2_m, h]
    refine (impl_Disk_done _ hl hl.2.1 h48 hw (by simp (maxSteps := 4000000) [hd0, hfr, hout, hcl, hcd, delA_none, a1, a1_n, a1_d, a1_m, a2, a2_n, a2_d, a2_m]) (by simp (maxSteps := 4000000) [hd0, hfr, hout, hcl, hcd, delA_none, a1, a1_n, a1_d, a1_m, a2, a2_n, a2_d, a2_m]) (by simp (maxSteps := 4000000) [hd0, hfr, hout, hcl, hcd, delA_none, a1, a1_n, a1_d, a1_m, a2, a2_n, a2_d, a2_m])).useCK ?_
    simp (maxSteps := 4000000) [hd0, hfr, hout, hcl, hcd, delA_none, a1, a1_n, a1_d, a1_m, a2, a2_n, a2_d, a2_m, DDisk.enc, syncF, DDiskResult.enc, h]
  · simp (maxSteps := 4000000) [hd0, hfr, hout, hcl, hcd, delA_none, a1, a1_n, a1_d, a1_m, a2, a2_n, a2_d, a2_m, h, syncF, DDiskResult.enc]
end Go.Proofs.Ythejobdlfomcjaa
