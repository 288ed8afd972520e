/- Part 3 of the proof that the law FnExactDropKey answers true at every input: memory as trees, the program walked over them, and what it computes; no condition. -/
import Derived.Test.YtnlbjfdmjlnlgaaGreatProg
import Derived.KernelRfl
import Derived.Test.YtnlbjfdmjlnlgaaGreatU2
/- What the evaluator of trees asks of the types; each by the kernel. Written by a program of this session. -/
namespace Go.Proofs.YtnlbjfdmjlnlgaaGreat.Ty
open Go Go.Px Go.Proofs

theorem tok2 : tok Tryz.prog 2 = true := by kernel_rfl
theorem tsz2 : tsz Tryz.prog 2 = 1 := by kernel_rfl
theorem tagg2 : tagg Tryz.prog 2 = false := by kernel_rfl
theorem tinfo2 : tinfo Tryz.prog 2 = some (1, 8) := by kernel_rfl
theorem tzc2 : tzc Tryz.prog 2 = some [.v (.int .i64 0)] := by kernel_rfl
theorem tzs2 : tzs Tryz.prog 2 = [0] := by kernel_rfl
theorem tund2 : Tryz.prog.underlying 2 = some (.int .i64) := by kernel_rfl
theorem tok3 : tok Tryz.prog 3 = true := by kernel_rfl
theorem tsz3 : tsz Tryz.prog 3 = 1 := by kernel_rfl
theorem tagg3 : tagg Tryz.prog 3 = false := by kernel_rfl
theorem tinfo3 : tinfo Tryz.prog 3 = some (1, 8) := by kernel_rfl
theorem tzc3 : tzc Tryz.prog 3 = some [.v (.int .i64 0)] := by kernel_rfl
theorem tzs3 : tzs Tryz.prog 3 = [0] := by kernel_rfl
theorem tund3 : Tryz.prog.underlying 3 = some (.int .i64) := by kernel_rfl
theorem tok4 : tok Tryz.prog 4 = true := by kernel_rfl
theorem tsz4 : tsz Tryz.prog 4 = 1 := by kernel_rfl
theorem tagg4 : tagg Tryz.prog 4 = false := by kernel_rfl
theorem tinfo4 : tinfo Tryz.prog 4 = some (1, 1) := by kernel_rfl
theorem tzc4 : tzc Tryz.prog 4 = some [.v (.bool false)] := by kernel_rfl
theorem tzs4 : tzs Tryz.prog 4 = [0] := by kernel_rfl
theorem tund4 : Tryz.prog.underlying 4 = some .bool := by kernel_rfl
theorem tok5 : tok Tryz.prog 5 = true := by kernel_rfl
theorem tsz5 : tsz Tryz.prog 5 = 1 := by kernel_rfl
theorem tagg5 : tagg Tryz.prog 5 = false := by kernel_rfl
theorem tinfo5 : tinfo Tryz.prog 5 = some (1, 1) := by kernel_rfl
theorem tzc5 : tzc Tryz.prog 5 = some [.v (.int .u8 0)] := by kernel_rfl
theorem tzs5 : tzs Tryz.prog 5 = [0] := by kernel_rfl
theorem tund5 : Tryz.prog.underlying 5 = some (.int .u8) := by kernel_rfl
theorem tok6 : tok Tryz.prog 6 = true := by kernel_rfl
theorem tsz6 : tsz Tryz.prog 6 = 1 := by kernel_rfl
theorem tagg6 : tagg Tryz.prog 6 = false := by kernel_rfl
theorem tinfo6 : tinfo Tryz.prog 6 = some (1, 1) := by kernel_rfl
theorem tzc6 : tzc Tryz.prog 6 = some [.v (.int .u8 0)] := by kernel_rfl
theorem tzs6 : tzs Tryz.prog 6 = [0] := by kernel_rfl
theorem tund6 : Tryz.prog.underlying 6 = some (.int .u8) := by kernel_rfl
theorem tok22 : tok Tryz.prog 22 = true := by kernel_rfl
theorem tsz22 : tsz Tryz.prog 22 = 1 := by kernel_rfl
theorem tagg22 : tagg Tryz.prog 22 = false := by kernel_rfl
theorem tinfo22 : tinfo Tryz.prog 22 = some (1, 24) := by kernel_rfl
theorem tzc22 : tzc Tryz.prog 22 = some [.own 5 []] := by kernel_rfl
theorem tzs22 : tzs Tryz.prog 22 = [5] := by kernel_rfl
theorem tel22 : tel Tryz.prog 22 = some 149 := by kernel_rfl
theorem tok23 : tok Tryz.prog 23 = true := by kernel_rfl
theorem tsz23 : tsz Tryz.prog 23 = 1 := by kernel_rfl
theorem tagg23 : tagg Tryz.prog 23 = false := by kernel_rfl
theorem tinfo23 : tinfo Tryz.prog 23 = some (1, 24) := by kernel_rfl
theorem tzc23 : tzc Tryz.prog 23 = some [.own 2 []] := by kernel_rfl
theorem tzs23 : tzs Tryz.prog 23 = [2] := by kernel_rfl
theorem tel23 : tel Tryz.prog 23 = some 153 := by kernel_rfl
theorem tok24 : tok Tryz.prog 24 = true := by kernel_rfl
theorem tsz24 : tsz Tryz.prog 24 = 4 := by kernel_rfl
theorem tagg24 : tagg Tryz.prog 24 = true := by kernel_rfl
theorem tinfo24 : tinfo Tryz.prog 24 = some (4, 64) := by kernel_rfl
theorem tzc24 : tzc Tryz.prog 24 = some [.v (.int .i64 0), .v (.int .i64 0), .own 5 [], .own 2 []] := by kernel_rfl
theorem tzs24 : tzs Tryz.prog 24 = [0, 0, 5, 2] := by kernel_rfl
theorem tf24_0 : tfield Tryz.prog 24 0 = some (0, 2) := by kernel_rfl
theorem tf24_1 : tfield Tryz.prog 24 1 = some (1, 2) := by kernel_rfl
theorem tf24_2 : tfield Tryz.prog 24 2 = some (2, 22) := by kernel_rfl
theorem tf24_3 : tfield Tryz.prog 24 3 = some (3, 23) := by kernel_rfl
theorem tpl24 : tplaces Tryz.prog 24 = some [(0, 1), (1, 1), (2, 1), (3, 1)] := by kernel_rfl
theorem tok25 : tok Tryz.prog 25 = true := by kernel_rfl
theorem tsz25 : tsz Tryz.prog 25 = 4 := by kernel_rfl
theorem tagg25 : tagg Tryz.prog 25 = true := by kernel_rfl
theorem tinfo25 : tinfo Tryz.prog 25 = some (4, 64) := by kernel_rfl
theorem tzc25 : tzc Tryz.prog 25 = some [.v (.int .i64 0), .v (.int .i64 0), .own 5 [], .own 2 []] := by kernel_rfl
theorem tzs25 : tzs Tryz.prog 25 = [0, 0, 5, 2] := by kernel_rfl
theorem tf25_0 : tfield Tryz.prog 25 0 = some (0, 2) := by kernel_rfl
theorem tf25_1 : tfield Tryz.prog 25 1 = some (1, 2) := by kernel_rfl
theorem tf25_2 : tfield Tryz.prog 25 2 = some (2, 22) := by kernel_rfl
theorem tf25_3 : tfield Tryz.prog 25 3 = some (3, 23) := by kernel_rfl
theorem tpl25 : tplaces Tryz.prog 25 = some [(0, 1), (1, 1), (2, 1), (3, 1)] := by kernel_rfl
theorem tok27 : tok Tryz.prog 27 = true := by kernel_rfl
theorem tsz27 : tsz Tryz.prog 27 = 1 := by kernel_rfl
theorem tagg27 : tagg Tryz.prog 27 = false := by kernel_rfl
theorem tinfo27 : tinfo Tryz.prog 27 = some (1, 24) := by kernel_rfl
theorem tzc27 : tzc Tryz.prog 27 = some [.own 5 []] := by kernel_rfl
theorem tzs27 : tzs Tryz.prog 27 = [5] := by kernel_rfl
theorem tel27 : tel Tryz.prog 27 = some 85 := by kernel_rfl
theorem tok28 : tok Tryz.prog 28 = true := by kernel_rfl
theorem tsz28 : tsz Tryz.prog 28 = 1 := by kernel_rfl
theorem tagg28 : tagg Tryz.prog 28 = false := by kernel_rfl
theorem tinfo28 : tinfo Tryz.prog 28 = some (1, 24) := by kernel_rfl
theorem tzc28 : tzc Tryz.prog 28 = some [.own 2 []] := by kernel_rfl
theorem tzs28 : tzs Tryz.prog 28 = [2] := by kernel_rfl
theorem tel28 : tel Tryz.prog 28 = some 133 := by kernel_rfl
theorem tok29 : tok Tryz.prog 29 = true := by kernel_rfl
theorem tsz29 : tsz Tryz.prog 29 = 4 := by kernel_rfl
theorem tagg29 : tagg Tryz.prog 29 = true := by kernel_rfl
theorem tinfo29 : tinfo Tryz.prog 29 = some (4, 64) := by kernel_rfl
theorem tzc29 : tzc Tryz.prog 29 = some [.v (.int .i64 0), .v (.int .i64 0), .own 5 [], .own 2 []] := by kernel_rfl
theorem tzs29 : tzs Tryz.prog 29 = [0, 0, 5, 2] := by kernel_rfl
theorem tf29_0 : tfield Tryz.prog 29 0 = some (0, 2) := by kernel_rfl
theorem tf29_1 : tfield Tryz.prog 29 1 = some (1, 2) := by kernel_rfl
theorem tf29_2 : tfield Tryz.prog 29 2 = some (2, 27) := by kernel_rfl
theorem tf29_3 : tfield Tryz.prog 29 3 = some (3, 28) := by kernel_rfl
theorem tpl29 : tplaces Tryz.prog 29 = some [(0, 1), (1, 1), (2, 1), (3, 1)] := by kernel_rfl
theorem tok30 : tok Tryz.prog 30 = true := by kernel_rfl
theorem tsz30 : tsz Tryz.prog 30 = 4 := by kernel_rfl
theorem tagg30 : tagg Tryz.prog 30 = true := by kernel_rfl
theorem tinfo30 : tinfo Tryz.prog 30 = some (4, 64) := by kernel_rfl
theorem tzc30 : tzc Tryz.prog 30 = some [.v (.int .i64 0), .v (.int .i64 0), .own 5 [], .own 2 []] := by kernel_rfl
theorem tzs30 : tzs Tryz.prog 30 = [0, 0, 5, 2] := by kernel_rfl
theorem tf30_0 : tfield Tryz.prog 30 0 = some (0, 2) := by kernel_rfl
theorem tf30_1 : tfield Tryz.prog 30 1 = some (1, 2) := by kernel_rfl
theorem tf30_2 : tfield Tryz.prog 30 2 = some (2, 27) := by kernel_rfl
theorem tf30_3 : tfield Tryz.prog 30 3 = some (3, 28) := by kernel_rfl
theorem tpl30 : tplaces Tryz.prog 30 = some [(0, 1), (1, 1), (2, 1), (3, 1)] := by kernel_rfl
theorem tok31 : tok Tryz.prog 31 = true := by kernel_rfl
theorem tsz31 : tsz Tryz.prog 31 = 6 := by kernel_rfl
theorem tagg31 : tagg Tryz.prog 31 = true := by kernel_rfl
theorem tinfo31 : tinfo Tryz.prog 31 = some (6, 80) := by kernel_rfl
theorem tzc31 : tzc Tryz.prog 31 = some [.v (.int .i64 0), .v (.int .i64 0), .v (.int .i64 0), .v (.int .i64 0), .own 5 [], .own 2 []] := by kernel_rfl
theorem tzs31 : tzs Tryz.prog 31 = [0, 0, 0, 0, 5, 2] := by kernel_rfl
theorem tf31_0 : tfield Tryz.prog 31 0 = some (0, 2) := by kernel_rfl
theorem tf31_1 : tfield Tryz.prog 31 1 = some (1, 2) := by kernel_rfl
theorem tf31_2 : tfield Tryz.prog 31 2 = some (2, 30) := by kernel_rfl
theorem tpl31 : tplaces Tryz.prog 31 = some [(0, 1), (1, 1), (2, 4)] := by kernel_rfl
theorem tok32 : tok Tryz.prog 32 = true := by kernel_rfl
theorem tsz32 : tsz Tryz.prog 32 = 6 := by kernel_rfl
theorem tagg32 : tagg Tryz.prog 32 = true := by kernel_rfl
theorem tinfo32 : tinfo Tryz.prog 32 = some (6, 80) := by kernel_rfl
theorem tzc32 : tzc Tryz.prog 32 = some [.v (.int .i64 0), .v (.int .i64 0), .v (.int .i64 0), .v (.int .i64 0), .own 5 [], .own 2 []] := by kernel_rfl
theorem tzs32 : tzs Tryz.prog 32 = [0, 0, 0, 0, 5, 2] := by kernel_rfl
theorem tf32_0 : tfield Tryz.prog 32 0 = some (0, 2) := by kernel_rfl
theorem tf32_1 : tfield Tryz.prog 32 1 = some (1, 2) := by kernel_rfl
theorem tf32_2 : tfield Tryz.prog 32 2 = some (2, 30) := by kernel_rfl
theorem tpl32 : tplaces Tryz.prog 32 = some [(0, 1), (1, 1), (2, 4)] := by kernel_rfl
theorem tok46 : tok Tryz.prog 46 = true := by kernel_rfl
theorem tsz46 : tsz Tryz.prog 46 = 1 := by kernel_rfl
theorem tagg46 : tagg Tryz.prog 46 = false := by kernel_rfl
theorem tinfo46 : tinfo Tryz.prog 46 = some (1, 24) := by kernel_rfl
theorem tzc46 : tzc Tryz.prog 46 = some [.own 2 []] := by kernel_rfl
theorem tzs46 : tzs Tryz.prog 46 = [2] := by kernel_rfl
theorem tel46 : tel Tryz.prog 46 = some 119 := by kernel_rfl
theorem tok48 : tok Tryz.prog 48 = true := by kernel_rfl
theorem tsz48 : tsz Tryz.prog 48 = 1 := by kernel_rfl
theorem tagg48 : tagg Tryz.prog 48 = false := by kernel_rfl
theorem tinfo48 : tinfo Tryz.prog 48 = some (1, 24) := by kernel_rfl
theorem tzc48 : tzc Tryz.prog 48 = some [.own 1 []] := by kernel_rfl
theorem tzs48 : tzs Tryz.prog 48 = [1] := by kernel_rfl
theorem tel48 : tel Tryz.prog 48 = some 2 := by kernel_rfl
theorem tok49 : tok Tryz.prog 49 = true := by kernel_rfl
theorem tsz49 : tsz Tryz.prog 49 = 2 := by kernel_rfl
theorem tagg49 : tagg Tryz.prog 49 = true := by kernel_rfl
theorem tinfo49 : tinfo Tryz.prog 49 = some (2, 32) := by kernel_rfl
theorem tzc49 : tzc Tryz.prog 49 = some [.v (.int .i64 0), .own 1 []] := by kernel_rfl
theorem tzs49 : tzs Tryz.prog 49 = [0, 1] := by kernel_rfl
theorem tf49_0 : tfield Tryz.prog 49 0 = some (0, 2) := by kernel_rfl
theorem tf49_1 : tfield Tryz.prog 49 1 = some (1, 48) := by kernel_rfl
theorem tpl49 : tplaces Tryz.prog 49 = some [(0, 1), (1, 1)] := by kernel_rfl
theorem tok50 : tok Tryz.prog 50 = true := by kernel_rfl
theorem tsz50 : tsz Tryz.prog 50 = 2 := by kernel_rfl
theorem tagg50 : tagg Tryz.prog 50 = true := by kernel_rfl
theorem tinfo50 : tinfo Tryz.prog 50 = some (2, 32) := by kernel_rfl
theorem tzc50 : tzc Tryz.prog 50 = some [.v (.int .i64 0), .own 1 []] := by kernel_rfl
theorem tzs50 : tzs Tryz.prog 50 = [0, 1] := by kernel_rfl
theorem tf50_0 : tfield Tryz.prog 50 0 = some (0, 2) := by kernel_rfl
theorem tf50_1 : tfield Tryz.prog 50 1 = some (1, 48) := by kernel_rfl
theorem tpl50 : tplaces Tryz.prog 50 = some [(0, 1), (1, 1)] := by kernel_rfl
theorem tok52 : tok Tryz.prog 52 = true := by kernel_rfl
theorem tsz52 : tsz Tryz.prog 52 = 1 := by kernel_rfl
theorem tagg52 : tagg Tryz.prog 52 = false := by kernel_rfl
theorem tinfo52 : tinfo Tryz.prog 52 = some (1, 24) := by kernel_rfl
theorem tzc52 : tzc Tryz.prog 52 = some [.own 2 []] := by kernel_rfl
theorem tzs52 : tzs Tryz.prog 52 = [2] := by kernel_rfl
theorem tel52 : tel Tryz.prog 52 = some 117 := by kernel_rfl
theorem tok59 : tok Tryz.prog 59 = true := by kernel_rfl
theorem tsz59 : tsz Tryz.prog 59 = 2 := by kernel_rfl
theorem tagg59 : tagg Tryz.prog 59 = true := by kernel_rfl
theorem tinfo59 : tinfo Tryz.prog 59 = some (2, 32) := by kernel_rfl
theorem tzc59 : tzc Tryz.prog 59 = some [.v (.int .i64 0), .own 2 []] := by kernel_rfl
theorem tzs59 : tzs Tryz.prog 59 = [0, 2] := by kernel_rfl
theorem tf59_0 : tfield Tryz.prog 59 0 = some (0, 2) := by kernel_rfl
theorem tf59_1 : tfield Tryz.prog 59 1 = some (1, 52) := by kernel_rfl
theorem tpl59 : tplaces Tryz.prog 59 = some [(0, 1), (1, 1)] := by kernel_rfl
theorem tok60 : tok Tryz.prog 60 = true := by kernel_rfl
theorem tsz60 : tsz Tryz.prog 60 = 2 := by kernel_rfl
theorem tagg60 : tagg Tryz.prog 60 = true := by kernel_rfl
theorem tinfo60 : tinfo Tryz.prog 60 = some (2, 32) := by kernel_rfl
theorem tzc60 : tzc Tryz.prog 60 = some [.v (.int .i64 0), .own 2 []] := by kernel_rfl
theorem tzs60 : tzs Tryz.prog 60 = [0, 2] := by kernel_rfl
theorem tf60_0 : tfield Tryz.prog 60 0 = some (0, 2) := by kernel_rfl
theorem tf60_1 : tfield Tryz.prog 60 1 = some (1, 52) := by kernel_rfl
theorem tpl60 : tplaces Tryz.prog 60 = some [(0, 1), (1, 1)] := by kernel_rfl
theorem tok67 : tok Tryz.prog 67 = true := by kernel_rfl
theorem tsz67 : tsz Tryz.prog 67 = 1 := by kernel_rfl
theorem tagg67 : tagg Tryz.prog 67 = false := by kernel_rfl
theorem tinfo67 : tinfo Tryz.prog 67 = some (1, 24) := by kernel_rfl
theorem tzc67 : tzc Tryz.prog 67 = some [.own 1 []] := by kernel_rfl
theorem tzs67 : tzs Tryz.prog 67 = [1] := by kernel_rfl
theorem tel67 : tel Tryz.prog 67 = some 5 := by kernel_rfl
theorem tok72 : tok Tryz.prog 72 = true := by kernel_rfl
theorem tsz72 : tsz Tryz.prog 72 = 2 := by kernel_rfl
theorem tagg72 : tagg Tryz.prog 72 = true := by kernel_rfl
theorem tinfo72 : tinfo Tryz.prog 72 = some (2, 16) := by kernel_rfl
theorem tzc72 : tzc Tryz.prog 72 = some [.v (.int .i64 0), .v (.int .i64 0)] := by kernel_rfl
theorem tzs72 : tzs Tryz.prog 72 = [0, 0] := by kernel_rfl
theorem tf72_0 : tfield Tryz.prog 72 0 = some (0, 2) := by kernel_rfl
theorem tf72_1 : tfield Tryz.prog 72 1 = some (1, 2) := by kernel_rfl
theorem tpl72 : tplaces Tryz.prog 72 = some [(0, 1), (1, 1)] := by kernel_rfl
theorem tok73 : tok Tryz.prog 73 = true := by kernel_rfl
theorem tsz73 : tsz Tryz.prog 73 = 2 := by kernel_rfl
theorem tagg73 : tagg Tryz.prog 73 = true := by kernel_rfl
theorem tinfo73 : tinfo Tryz.prog 73 = some (2, 16) := by kernel_rfl
theorem tzc73 : tzc Tryz.prog 73 = some [.v (.int .i64 0), .v (.int .i64 0)] := by kernel_rfl
theorem tzs73 : tzs Tryz.prog 73 = [0, 0] := by kernel_rfl
theorem tf73_0 : tfield Tryz.prog 73 0 = some (0, 2) := by kernel_rfl
theorem tf73_1 : tfield Tryz.prog 73 1 = some (1, 2) := by kernel_rfl
theorem tpl73 : tplaces Tryz.prog 73 = some [(0, 1), (1, 1)] := by kernel_rfl
theorem tok79 : tok Tryz.prog 79 = true := by kernel_rfl
theorem tsz79 : tsz Tryz.prog 79 = 1 := by kernel_rfl
theorem tagg79 : tagg Tryz.prog 79 = false := by kernel_rfl
theorem tinfo79 : tinfo Tryz.prog 79 = some (1, 8) := by kernel_rfl
theorem tzc79 : tzc Tryz.prog 79 = some [.v (.pointer none)] := by kernel_rfl
theorem tzs79 : tzs Tryz.prog 79 = [0] := by kernel_rfl
theorem tok83 : tok Tryz.prog 83 = true := by kernel_rfl
theorem tsz83 : tsz Tryz.prog 83 = 1 := by kernel_rfl
theorem tagg83 : tagg Tryz.prog 83 = false := by kernel_rfl
theorem tinfo83 : tinfo Tryz.prog 83 = some (1, 24) := by kernel_rfl
theorem tzc83 : tzc Tryz.prog 83 = some [.own 4 []] := by kernel_rfl
theorem tzs83 : tzs Tryz.prog 83 = [4] := by kernel_rfl
theorem tel83 : tel Tryz.prog 83 = some 143 := by kernel_rfl
theorem tok84 : tok Tryz.prog 84 = true := by kernel_rfl
theorem tsz84 : tsz Tryz.prog 84 = 5 := by kernel_rfl
theorem tagg84 : tagg Tryz.prog 84 = true := by kernel_rfl
theorem tinfo84 : tinfo Tryz.prog 84 = some (5, 56) := by kernel_rfl
theorem tzc84 : tzc Tryz.prog 84 = some [.v (.int .i64 0), .v (.int .i64 0), .v (.int .i64 0), .v (.int .i64 0), .own 4 []] := by kernel_rfl
theorem tzs84 : tzs Tryz.prog 84 = [0, 0, 0, 0, 4] := by kernel_rfl
theorem tf84_0 : tfield Tryz.prog 84 0 = some (0, 2) := by kernel_rfl
theorem tf84_1 : tfield Tryz.prog 84 1 = some (1, 2) := by kernel_rfl
theorem tf84_2 : tfield Tryz.prog 84 2 = some (2, 2) := by kernel_rfl
theorem tf84_3 : tfield Tryz.prog 84 3 = some (3, 2) := by kernel_rfl
theorem tf84_4 : tfield Tryz.prog 84 4 = some (4, 83) := by kernel_rfl
theorem tpl84 : tplaces Tryz.prog 84 = some [(0, 1), (1, 1), (2, 1), (3, 1), (4, 1)] := by kernel_rfl
theorem tok85 : tok Tryz.prog 85 = true := by kernel_rfl
theorem tsz85 : tsz Tryz.prog 85 = 5 := by kernel_rfl
theorem tagg85 : tagg Tryz.prog 85 = true := by kernel_rfl
theorem tinfo85 : tinfo Tryz.prog 85 = some (5, 56) := by kernel_rfl
theorem tzc85 : tzc Tryz.prog 85 = some [.v (.int .i64 0), .v (.int .i64 0), .v (.int .i64 0), .v (.int .i64 0), .own 4 []] := by kernel_rfl
theorem tzs85 : tzs Tryz.prog 85 = [0, 0, 0, 0, 4] := by kernel_rfl
theorem tf85_0 : tfield Tryz.prog 85 0 = some (0, 2) := by kernel_rfl
theorem tf85_1 : tfield Tryz.prog 85 1 = some (1, 2) := by kernel_rfl
theorem tf85_2 : tfield Tryz.prog 85 2 = some (2, 2) := by kernel_rfl
theorem tf85_3 : tfield Tryz.prog 85 3 = some (3, 2) := by kernel_rfl
theorem tf85_4 : tfield Tryz.prog 85 4 = some (4, 83) := by kernel_rfl
theorem tpl85 : tplaces Tryz.prog 85 = some [(0, 1), (1, 1), (2, 1), (3, 1), (4, 1)] := by kernel_rfl
theorem tok89 : tok Tryz.prog 89 = true := by kernel_rfl
theorem tsz89 : tsz Tryz.prog 89 = 1 := by kernel_rfl
theorem tagg89 : tagg Tryz.prog 89 = false := by kernel_rfl
theorem tinfo89 : tinfo Tryz.prog 89 = some (1, 8) := by kernel_rfl
theorem tzc89 : tzc Tryz.prog 89 = some [.v (.pointer none)] := by kernel_rfl
theorem tzs89 : tzs Tryz.prog 89 = [0] := by kernel_rfl
theorem tok108 : tok Tryz.prog 108 = true := by kernel_rfl
theorem tsz108 : tsz Tryz.prog 108 = 2 := by kernel_rfl
theorem tagg108 : tagg Tryz.prog 108 = true := by kernel_rfl
theorem tinfo108 : tinfo Tryz.prog 108 = some (2, 16) := by kernel_rfl
theorem tzc108 : tzc Tryz.prog 108 = some [.v (.int .i64 0), .v (.int .i64 0)] := by kernel_rfl
theorem tzs108 : tzs Tryz.prog 108 = [0, 0] := by kernel_rfl
theorem tf108_0 : tfield Tryz.prog 108 0 = some (0, 2) := by kernel_rfl
theorem tf108_1 : tfield Tryz.prog 108 1 = some (1, 2) := by kernel_rfl
theorem tpl108 : tplaces Tryz.prog 108 = some [(0, 1), (1, 1)] := by kernel_rfl
theorem tok109 : tok Tryz.prog 109 = true := by kernel_rfl
theorem tsz109 : tsz Tryz.prog 109 = 2 := by kernel_rfl
theorem tagg109 : tagg Tryz.prog 109 = true := by kernel_rfl
theorem tinfo109 : tinfo Tryz.prog 109 = some (2, 16) := by kernel_rfl
theorem tzc109 : tzc Tryz.prog 109 = some [.v (.int .i64 0), .v (.int .i64 0)] := by kernel_rfl
theorem tzs109 : tzs Tryz.prog 109 = [0, 0] := by kernel_rfl
theorem tf109_0 : tfield Tryz.prog 109 0 = some (0, 2) := by kernel_rfl
theorem tf109_1 : tfield Tryz.prog 109 1 = some (1, 2) := by kernel_rfl
theorem tpl109 : tplaces Tryz.prog 109 = some [(0, 1), (1, 1)] := by kernel_rfl
theorem tok112 : tok Tryz.prog 112 = true := by kernel_rfl
theorem tsz112 : tsz Tryz.prog 112 = 1 := by kernel_rfl
theorem tagg112 : tagg Tryz.prog 112 = false := by kernel_rfl
theorem tinfo112 : tinfo Tryz.prog 112 = some (1, 24) := by kernel_rfl
theorem tzc112 : tzc Tryz.prog 112 = some [.own 4 []] := by kernel_rfl
theorem tzs112 : tzs Tryz.prog 112 = [4] := by kernel_rfl
theorem tel112 : tel Tryz.prog 112 = some 135 := by kernel_rfl
theorem tok116 : tok Tryz.prog 116 = true := by kernel_rfl
theorem tsz116 : tsz Tryz.prog 116 = 2 := by kernel_rfl
theorem tagg116 : tagg Tryz.prog 116 = true := by kernel_rfl
theorem tinfo116 : tinfo Tryz.prog 116 = some (2, 16) := by kernel_rfl
theorem tzc116 : tzc Tryz.prog 116 = some [.v (.int .i64 0), .v (.int .i64 0)] := by kernel_rfl
theorem tzs116 : tzs Tryz.prog 116 = [0, 0] := by kernel_rfl
theorem tf116_0 : tfield Tryz.prog 116 0 = some (0, 2) := by kernel_rfl
theorem tf116_1 : tfield Tryz.prog 116 1 = some (1, 2) := by kernel_rfl
theorem tpl116 : tplaces Tryz.prog 116 = some [(0, 1), (1, 1)] := by kernel_rfl
theorem tok117 : tok Tryz.prog 117 = true := by kernel_rfl
theorem tsz117 : tsz Tryz.prog 117 = 2 := by kernel_rfl
theorem tagg117 : tagg Tryz.prog 117 = true := by kernel_rfl
theorem tinfo117 : tinfo Tryz.prog 117 = some (2, 16) := by kernel_rfl
theorem tzc117 : tzc Tryz.prog 117 = some [.v (.int .i64 0), .v (.int .i64 0)] := by kernel_rfl
theorem tzs117 : tzs Tryz.prog 117 = [0, 0] := by kernel_rfl
theorem tf117_0 : tfield Tryz.prog 117 0 = some (0, 2) := by kernel_rfl
theorem tf117_1 : tfield Tryz.prog 117 1 = some (1, 2) := by kernel_rfl
theorem tpl117 : tplaces Tryz.prog 117 = some [(0, 1), (1, 1)] := by kernel_rfl
theorem tok119 : tok Tryz.prog 119 = true := by kernel_rfl
theorem tsz119 : tsz Tryz.prog 119 = 2 := by kernel_rfl
theorem tagg119 : tagg Tryz.prog 119 = true := by kernel_rfl
theorem tinfo119 : tinfo Tryz.prog 119 = some (2, 16) := by kernel_rfl
theorem tzc119 : tzc Tryz.prog 119 = some [.v (.int .i64 0), .v (.int .i64 0)] := by kernel_rfl
theorem tzs119 : tzs Tryz.prog 119 = [0, 0] := by kernel_rfl
theorem tf119_0 : tfield Tryz.prog 119 0 = some (0, 2) := by kernel_rfl
theorem tf119_1 : tfield Tryz.prog 119 1 = some (1, 2) := by kernel_rfl
theorem tpl119 : tplaces Tryz.prog 119 = some [(0, 1), (1, 1)] := by kernel_rfl
theorem tok126 : tok Tryz.prog 126 = true := by kernel_rfl
theorem tsz126 : tsz Tryz.prog 126 = 1 := by kernel_rfl
theorem tagg126 : tagg Tryz.prog 126 = false := by kernel_rfl
theorem tinfo126 : tinfo Tryz.prog 126 = some (1, 8) := by kernel_rfl
theorem tzc126 : tzc Tryz.prog 126 = some [.v (.pointer none)] := by kernel_rfl
theorem tzs126 : tzs Tryz.prog 126 = [0] := by kernel_rfl
theorem tok132 : tok Tryz.prog 132 = true := by kernel_rfl
theorem tsz132 : tsz Tryz.prog 132 = 2 := by kernel_rfl
theorem tagg132 : tagg Tryz.prog 132 = true := by kernel_rfl
theorem tinfo132 : tinfo Tryz.prog 132 = some (2, 32) := by kernel_rfl
theorem tzc132 : tzc Tryz.prog 132 = some [.v (.int .i64 0), .own 4 []] := by kernel_rfl
theorem tzs132 : tzs Tryz.prog 132 = [0, 4] := by kernel_rfl
theorem tf132_0 : tfield Tryz.prog 132 0 = some (0, 2) := by kernel_rfl
theorem tf132_1 : tfield Tryz.prog 132 1 = some (1, 112) := by kernel_rfl
theorem tpl132 : tplaces Tryz.prog 132 = some [(0, 1), (1, 1)] := by kernel_rfl
theorem tok133 : tok Tryz.prog 133 = true := by kernel_rfl
theorem tsz133 : tsz Tryz.prog 133 = 2 := by kernel_rfl
theorem tagg133 : tagg Tryz.prog 133 = true := by kernel_rfl
theorem tinfo133 : tinfo Tryz.prog 133 = some (2, 32) := by kernel_rfl
theorem tzc133 : tzc Tryz.prog 133 = some [.v (.int .i64 0), .own 4 []] := by kernel_rfl
theorem tzs133 : tzs Tryz.prog 133 = [0, 4] := by kernel_rfl
theorem tf133_0 : tfield Tryz.prog 133 0 = some (0, 2) := by kernel_rfl
theorem tf133_1 : tfield Tryz.prog 133 1 = some (1, 112) := by kernel_rfl
theorem tpl133 : tplaces Tryz.prog 133 = some [(0, 1), (1, 1)] := by kernel_rfl
theorem tok134 : tok Tryz.prog 134 = true := by kernel_rfl
theorem tsz134 : tsz Tryz.prog 134 = 4 := by kernel_rfl
theorem tagg134 : tagg Tryz.prog 134 = true := by kernel_rfl
theorem tinfo134 : tinfo Tryz.prog 134 = some (4, 32) := by kernel_rfl
theorem tzc134 : tzc Tryz.prog 134 = some [.v (.int .i64 0), .v (.int .i64 0), .v (.bool false), .v (.int .i64 0)] := by kernel_rfl
theorem tzs134 : tzs Tryz.prog 134 = [0, 0, 0, 0] := by kernel_rfl
theorem tf134_0 : tfield Tryz.prog 134 0 = some (0, 2) := by kernel_rfl
theorem tf134_1 : tfield Tryz.prog 134 1 = some (1, 2) := by kernel_rfl
theorem tf134_2 : tfield Tryz.prog 134 2 = some (2, 4) := by kernel_rfl
theorem tf134_3 : tfield Tryz.prog 134 3 = some (3, 2) := by kernel_rfl
theorem tpl134 : tplaces Tryz.prog 134 = some [(0, 1), (1, 1), (2, 1), (3, 1)] := by kernel_rfl
theorem tok135 : tok Tryz.prog 135 = true := by kernel_rfl
theorem tsz135 : tsz Tryz.prog 135 = 4 := by kernel_rfl
theorem tagg135 : tagg Tryz.prog 135 = true := by kernel_rfl
theorem tinfo135 : tinfo Tryz.prog 135 = some (4, 32) := by kernel_rfl
theorem tzc135 : tzc Tryz.prog 135 = some [.v (.int .i64 0), .v (.int .i64 0), .v (.bool false), .v (.int .i64 0)] := by kernel_rfl
theorem tzs135 : tzs Tryz.prog 135 = [0, 0, 0, 0] := by kernel_rfl
theorem tf135_0 : tfield Tryz.prog 135 0 = some (0, 2) := by kernel_rfl
theorem tf135_1 : tfield Tryz.prog 135 1 = some (1, 2) := by kernel_rfl
theorem tf135_2 : tfield Tryz.prog 135 2 = some (2, 4) := by kernel_rfl
theorem tf135_3 : tfield Tryz.prog 135 3 = some (3, 2) := by kernel_rfl
theorem tpl135 : tplaces Tryz.prog 135 = some [(0, 1), (1, 1), (2, 1), (3, 1)] := by kernel_rfl
theorem tok142 : tok Tryz.prog 142 = true := by kernel_rfl
theorem tsz142 : tsz Tryz.prog 142 = 4 := by kernel_rfl
theorem tagg142 : tagg Tryz.prog 142 = true := by kernel_rfl
theorem tinfo142 : tinfo Tryz.prog 142 = some (4, 24) := by kernel_rfl
theorem tzc142 : tzc Tryz.prog 142 = some [.v (.int .i64 0), .v (.bool false), .v (.bool false), .v (.int .i64 0)] := by kernel_rfl
theorem tzs142 : tzs Tryz.prog 142 = [0, 0, 0, 0] := by kernel_rfl
theorem tf142_0 : tfield Tryz.prog 142 0 = some (0, 2) := by kernel_rfl
theorem tf142_1 : tfield Tryz.prog 142 1 = some (1, 4) := by kernel_rfl
theorem tf142_2 : tfield Tryz.prog 142 2 = some (2, 4) := by kernel_rfl
theorem tf142_3 : tfield Tryz.prog 142 3 = some (3, 2) := by kernel_rfl
theorem tpl142 : tplaces Tryz.prog 142 = some [(0, 1), (1, 1), (2, 1), (3, 1)] := by kernel_rfl
theorem tok143 : tok Tryz.prog 143 = true := by kernel_rfl
theorem tsz143 : tsz Tryz.prog 143 = 4 := by kernel_rfl
theorem tagg143 : tagg Tryz.prog 143 = true := by kernel_rfl
theorem tinfo143 : tinfo Tryz.prog 143 = some (4, 24) := by kernel_rfl
theorem tzc143 : tzc Tryz.prog 143 = some [.v (.int .i64 0), .v (.bool false), .v (.bool false), .v (.int .i64 0)] := by kernel_rfl
theorem tzs143 : tzs Tryz.prog 143 = [0, 0, 0, 0] := by kernel_rfl
theorem tf143_0 : tfield Tryz.prog 143 0 = some (0, 2) := by kernel_rfl
theorem tf143_1 : tfield Tryz.prog 143 1 = some (1, 4) := by kernel_rfl
theorem tf143_2 : tfield Tryz.prog 143 2 = some (2, 4) := by kernel_rfl
theorem tf143_3 : tfield Tryz.prog 143 3 = some (3, 2) := by kernel_rfl
theorem tpl143 : tplaces Tryz.prog 143 = some [(0, 1), (1, 1), (2, 1), (3, 1)] := by kernel_rfl
theorem tok147 : tok Tryz.prog 147 = true := by kernel_rfl
theorem tsz147 : tsz Tryz.prog 147 = 1 := by kernel_rfl
theorem tagg147 : tagg Tryz.prog 147 = false := by kernel_rfl
theorem tinfo147 : tinfo Tryz.prog 147 = some (1, 24) := by kernel_rfl
theorem tzc147 : tzc Tryz.prog 147 = some [.own 4 []] := by kernel_rfl
theorem tzs147 : tzs Tryz.prog 147 = [4] := by kernel_rfl
theorem tel147 : tel Tryz.prog 147 = some 220 := by kernel_rfl
theorem tok148 : tok Tryz.prog 148 = true := by kernel_rfl
theorem tsz148 : tsz Tryz.prog 148 = 5 := by kernel_rfl
theorem tagg148 : tagg Tryz.prog 148 = true := by kernel_rfl
theorem tinfo148 : tinfo Tryz.prog 148 = some (5, 56) := by kernel_rfl
theorem tzc148 : tzc Tryz.prog 148 = some [.v (.int .i64 0), .v (.int .i64 0), .v (.int .i64 0), .v (.int .i64 0), .own 4 []] := by kernel_rfl
theorem tzs148 : tzs Tryz.prog 148 = [0, 0, 0, 0, 4] := by kernel_rfl
theorem tf148_0 : tfield Tryz.prog 148 0 = some (0, 2) := by kernel_rfl
theorem tf148_1 : tfield Tryz.prog 148 1 = some (1, 2) := by kernel_rfl
theorem tf148_2 : tfield Tryz.prog 148 2 = some (2, 2) := by kernel_rfl
theorem tf148_3 : tfield Tryz.prog 148 3 = some (3, 2) := by kernel_rfl
theorem tf148_4 : tfield Tryz.prog 148 4 = some (4, 147) := by kernel_rfl
theorem tpl148 : tplaces Tryz.prog 148 = some [(0, 1), (1, 1), (2, 1), (3, 1), (4, 1)] := by kernel_rfl
theorem tok149 : tok Tryz.prog 149 = true := by kernel_rfl
theorem tsz149 : tsz Tryz.prog 149 = 5 := by kernel_rfl
theorem tagg149 : tagg Tryz.prog 149 = true := by kernel_rfl
theorem tinfo149 : tinfo Tryz.prog 149 = some (5, 56) := by kernel_rfl
theorem tzc149 : tzc Tryz.prog 149 = some [.v (.int .i64 0), .v (.int .i64 0), .v (.int .i64 0), .v (.int .i64 0), .own 4 []] := by kernel_rfl
theorem tzs149 : tzs Tryz.prog 149 = [0, 0, 0, 0, 4] := by kernel_rfl
theorem tf149_0 : tfield Tryz.prog 149 0 = some (0, 2) := by kernel_rfl
theorem tf149_1 : tfield Tryz.prog 149 1 = some (1, 2) := by kernel_rfl
theorem tf149_2 : tfield Tryz.prog 149 2 = some (2, 2) := by kernel_rfl
theorem tf149_3 : tfield Tryz.prog 149 3 = some (3, 2) := by kernel_rfl
theorem tf149_4 : tfield Tryz.prog 149 4 = some (4, 147) := by kernel_rfl
theorem tpl149 : tplaces Tryz.prog 149 = some [(0, 1), (1, 1), (2, 1), (3, 1), (4, 1)] := by kernel_rfl
theorem tok151 : tok Tryz.prog 151 = true := by kernel_rfl
theorem tsz151 : tsz Tryz.prog 151 = 1 := by kernel_rfl
theorem tagg151 : tagg Tryz.prog 151 = false := by kernel_rfl
theorem tinfo151 : tinfo Tryz.prog 151 = some (1, 24) := by kernel_rfl
theorem tzc151 : tzc Tryz.prog 151 = some [.own 4 []] := by kernel_rfl
theorem tzs151 : tzs Tryz.prog 151 = [4] := by kernel_rfl
theorem tel151 : tel Tryz.prog 151 = some 222 := by kernel_rfl
theorem tok152 : tok Tryz.prog 152 = true := by kernel_rfl
theorem tsz152 : tsz Tryz.prog 152 = 2 := by kernel_rfl
theorem tagg152 : tagg Tryz.prog 152 = true := by kernel_rfl
theorem tinfo152 : tinfo Tryz.prog 152 = some (2, 32) := by kernel_rfl
theorem tzc152 : tzc Tryz.prog 152 = some [.v (.int .i64 0), .own 4 []] := by kernel_rfl
theorem tzs152 : tzs Tryz.prog 152 = [0, 4] := by kernel_rfl
theorem tf152_0 : tfield Tryz.prog 152 0 = some (0, 2) := by kernel_rfl
theorem tf152_1 : tfield Tryz.prog 152 1 = some (1, 151) := by kernel_rfl
theorem tpl152 : tplaces Tryz.prog 152 = some [(0, 1), (1, 1)] := by kernel_rfl
theorem tok153 : tok Tryz.prog 153 = true := by kernel_rfl
theorem tsz153 : tsz Tryz.prog 153 = 2 := by kernel_rfl
theorem tagg153 : tagg Tryz.prog 153 = true := by kernel_rfl
theorem tinfo153 : tinfo Tryz.prog 153 = some (2, 32) := by kernel_rfl
theorem tzc153 : tzc Tryz.prog 153 = some [.v (.int .i64 0), .own 4 []] := by kernel_rfl
theorem tzs153 : tzs Tryz.prog 153 = [0, 4] := by kernel_rfl
theorem tf153_0 : tfield Tryz.prog 153 0 = some (0, 2) := by kernel_rfl
theorem tf153_1 : tfield Tryz.prog 153 1 = some (1, 151) := by kernel_rfl
theorem tpl153 : tplaces Tryz.prog 153 = some [(0, 1), (1, 1)] := by kernel_rfl
theorem tok173 : tok Tryz.prog 173 = true := by kernel_rfl
theorem tsz173 : tsz Tryz.prog 173 = 2 := by kernel_rfl
theorem tagg173 : tagg Tryz.prog 173 = true := by kernel_rfl
theorem tinfo173 : tinfo Tryz.prog 173 = some (2, 32) := by kernel_rfl
theorem tzc173 : tzc Tryz.prog 173 = some [.v (.int .i64 0), .own 4 []] := by kernel_rfl
theorem tzs173 : tzs Tryz.prog 173 = [0, 4] := by kernel_rfl
theorem tf173_0 : tfield Tryz.prog 173 0 = some (0, 2) := by kernel_rfl
theorem tf173_1 : tfield Tryz.prog 173 1 = some (1, 112) := by kernel_rfl
theorem tpl173 : tplaces Tryz.prog 173 = some [(0, 1), (1, 1)] := by kernel_rfl
theorem tok174 : tok Tryz.prog 174 = true := by kernel_rfl
theorem tsz174 : tsz Tryz.prog 174 = 2 := by kernel_rfl
theorem tagg174 : tagg Tryz.prog 174 = true := by kernel_rfl
theorem tinfo174 : tinfo Tryz.prog 174 = some (2, 32) := by kernel_rfl
theorem tzc174 : tzc Tryz.prog 174 = some [.v (.int .i64 0), .own 4 []] := by kernel_rfl
theorem tzs174 : tzs Tryz.prog 174 = [0, 4] := by kernel_rfl
theorem tf174_0 : tfield Tryz.prog 174 0 = some (0, 2) := by kernel_rfl
theorem tf174_1 : tfield Tryz.prog 174 1 = some (1, 112) := by kernel_rfl
theorem tpl174 : tplaces Tryz.prog 174 = some [(0, 1), (1, 1)] := by kernel_rfl
theorem tok190 : tok Tryz.prog 190 = true := by kernel_rfl
theorem tsz190 : tsz Tryz.prog 190 = 2 := by kernel_rfl
theorem tagg190 : tagg Tryz.prog 190 = true := by kernel_rfl
theorem tinfo190 : tinfo Tryz.prog 190 = some (2, 32) := by kernel_rfl
theorem tzc190 : tzc Tryz.prog 190 = some [.own 1 [], .v (.int .i64 0)] := by kernel_rfl
theorem tzs190 : tzs Tryz.prog 190 = [1, 0] := by kernel_rfl
theorem tf190_0 : tfield Tryz.prog 190 0 = some (0, 67) := by kernel_rfl
theorem tf190_1 : tfield Tryz.prog 190 1 = some (1, 2) := by kernel_rfl
theorem tpl190 : tplaces Tryz.prog 190 = some [(0, 1), (1, 1)] := by kernel_rfl
theorem tok191 : tok Tryz.prog 191 = true := by kernel_rfl
theorem tsz191 : tsz Tryz.prog 191 = 2 := by kernel_rfl
theorem tagg191 : tagg Tryz.prog 191 = true := by kernel_rfl
theorem tinfo191 : tinfo Tryz.prog 191 = some (2, 32) := by kernel_rfl
theorem tzc191 : tzc Tryz.prog 191 = some [.own 1 [], .v (.int .i64 0)] := by kernel_rfl
theorem tzs191 : tzs Tryz.prog 191 = [1, 0] := by kernel_rfl
theorem tf191_0 : tfield Tryz.prog 191 0 = some (0, 67) := by kernel_rfl
theorem tf191_1 : tfield Tryz.prog 191 1 = some (1, 2) := by kernel_rfl
theorem tpl191 : tplaces Tryz.prog 191 = some [(0, 1), (1, 1)] := by kernel_rfl
theorem tok204 : tok Tryz.prog 204 = true := by kernel_rfl
theorem tsz204 : tsz Tryz.prog 204 = 1 := by kernel_rfl
theorem tagg204 : tagg Tryz.prog 204 = false := by kernel_rfl
theorem tinfo204 : tinfo Tryz.prog 204 = some (1, 8) := by kernel_rfl
theorem tzc204 : tzc Tryz.prog 204 = some [.v (.pointer none)] := by kernel_rfl
theorem tzs204 : tzs Tryz.prog 204 = [0] := by kernel_rfl
theorem tok213 : tok Tryz.prog 213 = true := by kernel_rfl
theorem tsz213 : tsz Tryz.prog 213 = 1 := by kernel_rfl
theorem tagg213 : tagg Tryz.prog 213 = false := by kernel_rfl
theorem tinfo213 : tinfo Tryz.prog 213 = some (1, 8) := by kernel_rfl
theorem tzc213 : tzc Tryz.prog 213 = some [.v (.int .u64 0)] := by kernel_rfl
theorem tzs213 : tzs Tryz.prog 213 = [0] := by kernel_rfl
theorem tund213 : Tryz.prog.underlying 213 = some (.int .u64) := by kernel_rfl
theorem tok220 : tok Tryz.prog 220 = true := by kernel_rfl
theorem tsz220 : tsz Tryz.prog 220 = 4 := by kernel_rfl
theorem tagg220 : tagg Tryz.prog 220 = true := by kernel_rfl
theorem tinfo220 : tinfo Tryz.prog 220 = some (4, 24) := by kernel_rfl
theorem tzc220 : tzc Tryz.prog 220 = some [.v (.int .i64 0), .v (.bool false), .v (.bool false), .v (.int .i64 0)] := by kernel_rfl
theorem tzs220 : tzs Tryz.prog 220 = [0, 0, 0, 0] := by kernel_rfl
theorem tf220_0 : tfield Tryz.prog 220 0 = some (0, 2) := by kernel_rfl
theorem tf220_1 : tfield Tryz.prog 220 1 = some (1, 4) := by kernel_rfl
theorem tf220_2 : tfield Tryz.prog 220 2 = some (2, 4) := by kernel_rfl
theorem tf220_3 : tfield Tryz.prog 220 3 = some (3, 2) := by kernel_rfl
theorem tpl220 : tplaces Tryz.prog 220 = some [(0, 1), (1, 1), (2, 1), (3, 1)] := by kernel_rfl
theorem tok222 : tok Tryz.prog 222 = true := by kernel_rfl
theorem tsz222 : tsz Tryz.prog 222 = 4 := by kernel_rfl
theorem tagg222 : tagg Tryz.prog 222 = true := by kernel_rfl
theorem tinfo222 : tinfo Tryz.prog 222 = some (4, 32) := by kernel_rfl
theorem tzc222 : tzc Tryz.prog 222 = some [.v (.int .i64 0), .v (.int .i64 0), .v (.bool false), .v (.int .i64 0)] := by kernel_rfl
theorem tzs222 : tzs Tryz.prog 222 = [0, 0, 0, 0] := by kernel_rfl
theorem tf222_0 : tfield Tryz.prog 222 0 = some (0, 2) := by kernel_rfl
theorem tf222_1 : tfield Tryz.prog 222 1 = some (1, 2) := by kernel_rfl
theorem tf222_2 : tfield Tryz.prog 222 2 = some (2, 4) := by kernel_rfl
theorem tf222_3 : tfield Tryz.prog 222 3 = some (3, 2) := by kernel_rfl
theorem tpl222 : tplaces Tryz.prog 222 = some [(0, 1), (1, 1), (2, 1), (3, 1)] := by kernel_rfl
theorem tok228 : tok Tryz.prog 228 = true := by kernel_rfl
theorem tsz228 : tsz Tryz.prog 228 = 1 := by kernel_rfl
theorem tagg228 : tagg Tryz.prog 228 = false := by kernel_rfl
theorem tinfo228 : tinfo Tryz.prog 228 = some (1, 8) := by kernel_rfl
theorem tzc228 : tzc Tryz.prog 228 = some [.v (.int .i64 0)] := by kernel_rfl
theorem tzs228 : tzs Tryz.prog 228 = [0] := by kernel_rfl
theorem tund228 : Tryz.prog.underlying 228 = some (.int .i64) := by kernel_rfl
theorem tok235 : tok Tryz.prog 235 = true := by kernel_rfl
theorem tsz235 : tsz Tryz.prog 235 = 1 := by kernel_rfl
theorem tagg235 : tagg Tryz.prog 235 = false := by kernel_rfl
theorem tinfo235 : tinfo Tryz.prog 235 = some (1, 4) := by kernel_rfl
theorem tzc235 : tzc Tryz.prog 235 = some [.v (.int .u32 0)] := by kernel_rfl
theorem tzs235 : tzs Tryz.prog 235 = [0] := by kernel_rfl
theorem tund235 : Tryz.prog.underlying 235 = some (.int .u32) := by kernel_rfl
theorem tok237 : tok Tryz.prog 237 = true := by kernel_rfl
theorem tsz237 : tsz Tryz.prog 237 = 1 := by kernel_rfl
theorem tagg237 : tagg Tryz.prog 237 = false := by kernel_rfl
theorem tinfo237 : tinfo Tryz.prog 237 = some (1, 8) := by kernel_rfl
theorem tzc237 : tzc Tryz.prog 237 = some [.v (.int .u64 0)] := by kernel_rfl
theorem tzs237 : tzs Tryz.prog 237 = [0] := by kernel_rfl
theorem tund237 : Tryz.prog.underlying 237 = some (.int .u64) := by kernel_rfl
theorem tok238 : tok Tryz.prog 238 = true := by kernel_rfl
theorem tsz238 : tsz Tryz.prog 238 = 1 := by kernel_rfl
theorem tagg238 : tagg Tryz.prog 238 = false := by kernel_rfl
theorem tinfo238 : tinfo Tryz.prog 238 = some (1, 24) := by kernel_rfl
theorem tzc238 : tzc Tryz.prog 238 = some [.own 1 []] := by kernel_rfl
theorem tzs238 : tzs Tryz.prog 238 = [1] := by kernel_rfl
theorem tel238 : tel Tryz.prog 238 = some 3 := by kernel_rfl
theorem tok239 : tok Tryz.prog 239 = true := by kernel_rfl
theorem tsz239 : tsz Tryz.prog 239 = 1 := by kernel_rfl
theorem tagg239 : tagg Tryz.prog 239 = false := by kernel_rfl
theorem tinfo239 : tinfo Tryz.prog 239 = some (1, 24) := by kernel_rfl
theorem tzc239 : tzc Tryz.prog 239 = some [.own 2 []] := by kernel_rfl
theorem tzs239 : tzs Tryz.prog 239 = [2] := by kernel_rfl
theorem tel239 : tel Tryz.prog 239 = some 251 := by kernel_rfl
theorem tok243 : tok Tryz.prog 243 = true := by kernel_rfl
theorem tsz243 : tsz Tryz.prog 243 = 1 := by kernel_rfl
theorem tagg243 : tagg Tryz.prog 243 = false := by kernel_rfl
theorem tinfo243 : tinfo Tryz.prog 243 = some (1, 8) := by kernel_rfl
theorem tzc243 : tzc Tryz.prog 243 = some [.v (.int .u64 0)] := by kernel_rfl
theorem tzs243 : tzs Tryz.prog 243 = [0] := by kernel_rfl
theorem tund243 : Tryz.prog.underlying 243 = some (.int .u64) := by kernel_rfl
theorem tok247 : tok Tryz.prog 247 = true := by kernel_rfl
theorem tsz247 : tsz Tryz.prog 247 = 1 := by kernel_rfl
theorem tagg247 : tagg Tryz.prog 247 = false := by kernel_rfl
theorem tinfo247 : tinfo Tryz.prog 247 = some (1, 8) := by kernel_rfl
theorem tzc247 : tzc Tryz.prog 247 = some [.v (.pointer none)] := by kernel_rfl
theorem tzs247 : tzs Tryz.prog 247 = [0] := by kernel_rfl
theorem tok250 : tok Tryz.prog 250 = true := by kernel_rfl
theorem tsz250 : tsz Tryz.prog 250 = 2 := by kernel_rfl
theorem tagg250 : tagg Tryz.prog 250 = true := by kernel_rfl
theorem tinfo250 : tinfo Tryz.prog 250 = some (2, 16) := by kernel_rfl
theorem tzc250 : tzc Tryz.prog 250 = some [.v (.int .i64 0), .v (.int .i64 0)] := by kernel_rfl
theorem tzs250 : tzs Tryz.prog 250 = [0, 0] := by kernel_rfl
theorem tf250_0 : tfield Tryz.prog 250 0 = some (0, 2) := by kernel_rfl
theorem tf250_1 : tfield Tryz.prog 250 1 = some (1, 2) := by kernel_rfl
theorem tpl250 : tplaces Tryz.prog 250 = some [(0, 1), (1, 1)] := by kernel_rfl
theorem tok251 : tok Tryz.prog 251 = true := by kernel_rfl
theorem tsz251 : tsz Tryz.prog 251 = 2 := by kernel_rfl
theorem tagg251 : tagg Tryz.prog 251 = true := by kernel_rfl
theorem tinfo251 : tinfo Tryz.prog 251 = some (2, 16) := by kernel_rfl
theorem tzc251 : tzc Tryz.prog 251 = some [.v (.int .i64 0), .v (.int .i64 0)] := by kernel_rfl
theorem tzs251 : tzs Tryz.prog 251 = [0, 0] := by kernel_rfl
theorem tf251_0 : tfield Tryz.prog 251 0 = some (0, 2) := by kernel_rfl
theorem tf251_1 : tfield Tryz.prog 251 1 = some (1, 2) := by kernel_rfl
theorem tpl251 : tplaces Tryz.prog 251 = some [(0, 1), (1, 1)] := by kernel_rfl
theorem tok253 : tok Tryz.prog 253 = true := by kernel_rfl
theorem tsz253 : tsz Tryz.prog 253 = 1 := by kernel_rfl
theorem tagg253 : tagg Tryz.prog 253 = false := by kernel_rfl
theorem tinfo253 : tinfo Tryz.prog 253 = some (1, 8) := by kernel_rfl
theorem tzc253 : tzc Tryz.prog 253 = some [.v (.pointer none)] := by kernel_rfl
theorem tzs253 : tzs Tryz.prog 253 = [0] := by kernel_rfl
theorem tok257 : tok Tryz.prog 257 = true := by kernel_rfl
theorem tsz257 : tsz Tryz.prog 257 = 4 := by kernel_rfl
theorem tagg257 : tagg Tryz.prog 257 = true := by kernel_rfl
theorem tinfo257 : tinfo Tryz.prog 257 = some (4, 40) := by kernel_rfl
theorem tzc257 : tzc Tryz.prog 257 = some [.v (.pointer none), .v (.pointer none), .v (.pointer none), .v (.string ByteArray.empty)] := by kernel_rfl
theorem tzs257 : tzs Tryz.prog 257 = [0, 0, 0, 0] := by kernel_rfl
theorem tf257_0 : tfield Tryz.prog 257 0 = some (0, 17) := by kernel_rfl
theorem tf257_1 : tfield Tryz.prog 257 1 = some (1, 17) := by kernel_rfl
theorem tf257_2 : tfield Tryz.prog 257 2 = some (2, 17) := by kernel_rfl
theorem tf257_3 : tfield Tryz.prog 257 3 = some (3, 9) := by kernel_rfl
theorem tpl257 : tplaces Tryz.prog 257 = some [(0, 1), (1, 1), (2, 1), (3, 1)] := by kernel_rfl
theorem tok258 : tok Tryz.prog 258 = true := by kernel_rfl
theorem tsz258 : tsz Tryz.prog 258 = 4 := by kernel_rfl
theorem tagg258 : tagg Tryz.prog 258 = true := by kernel_rfl
theorem tinfo258 : tinfo Tryz.prog 258 = some (4, 40) := by kernel_rfl
theorem tzc258 : tzc Tryz.prog 258 = some [.v (.pointer none), .v (.pointer none), .v (.pointer none), .v (.string ByteArray.empty)] := by kernel_rfl
theorem tzs258 : tzs Tryz.prog 258 = [0, 0, 0, 0] := by kernel_rfl
theorem tf258_0 : tfield Tryz.prog 258 0 = some (0, 17) := by kernel_rfl
theorem tf258_1 : tfield Tryz.prog 258 1 = some (1, 17) := by kernel_rfl
theorem tf258_2 : tfield Tryz.prog 258 2 = some (2, 17) := by kernel_rfl
theorem tf258_3 : tfield Tryz.prog 258 3 = some (3, 9) := by kernel_rfl
theorem tpl258 : tplaces Tryz.prog 258 = some [(0, 1), (1, 1), (2, 1), (3, 1)] := by kernel_rfl
theorem tok260 : tok Tryz.prog 260 = true := by kernel_rfl
theorem tsz260 : tsz Tryz.prog 260 = 0 := by kernel_rfl
theorem tagg260 : tagg Tryz.prog 260 = true := by kernel_rfl
theorem tinfo260 : tinfo Tryz.prog 260 = some (0, 0) := by kernel_rfl
theorem tzc260 : tzc Tryz.prog 260 = some [] := by kernel_rfl
theorem tzs260 : tzs Tryz.prog 260 = [0] := by kernel_rfl
theorem tf260_0 : tfield Tryz.prog 260 0 = some (0, 259) := by kernel_rfl
theorem tok261 : tok Tryz.prog 261 = true := by kernel_rfl
theorem tsz261 : tsz Tryz.prog 261 = 0 := by kernel_rfl
theorem tagg261 : tagg Tryz.prog 261 = true := by kernel_rfl
theorem tinfo261 : tinfo Tryz.prog 261 = some (0, 0) := by kernel_rfl
theorem tzc261 : tzc Tryz.prog 261 = some [] := by kernel_rfl
theorem tzs261 : tzs Tryz.prog 261 = [0] := by kernel_rfl
theorem tf261_0 : tfield Tryz.prog 261 0 = some (0, 259) := by kernel_rfl
theorem tok263 : tok Tryz.prog 263 = true := by kernel_rfl
theorem tsz263 : tsz Tryz.prog 263 = 1 := by kernel_rfl
theorem tagg263 : tagg Tryz.prog 263 = false := by kernel_rfl
theorem tinfo263 : tinfo Tryz.prog 263 = some (1, 1) := by kernel_rfl
theorem tzc263 : tzc Tryz.prog 263 = some [.v (.int .u8 0)] := by kernel_rfl
theorem tzs263 : tzs Tryz.prog 263 = [0] := by kernel_rfl
theorem tund263 : Tryz.prog.underlying 263 = some (.int .u8) := by kernel_rfl
theorem tok264 : tok Tryz.prog 264 = true := by kernel_rfl
theorem tsz264 : tsz Tryz.prog 264 = 1 := by kernel_rfl
theorem tagg264 : tagg Tryz.prog 264 = false := by kernel_rfl
theorem tinfo264 : tinfo Tryz.prog 264 = some (1, 1) := by kernel_rfl
theorem tzc264 : tzc Tryz.prog 264 = some [.v (.int .u8 0)] := by kernel_rfl
theorem tzs264 : tzs Tryz.prog 264 = [0] := by kernel_rfl
theorem tund264 : Tryz.prog.underlying 264 = some (.int .u8) := by kernel_rfl
theorem tok266 : tok Tryz.prog 266 = true := by kernel_rfl
theorem tsz266 : tsz Tryz.prog 266 = 1 := by kernel_rfl
theorem tagg266 : tagg Tryz.prog 266 = false := by kernel_rfl
theorem tinfo266 : tinfo Tryz.prog 266 = some (1, 8) := by kernel_rfl
theorem tzc266 : tzc Tryz.prog 266 = some [.v (.pointer none)] := by kernel_rfl
theorem tzs266 : tzs Tryz.prog 266 = [0] := by kernel_rfl
theorem tok267 : tok Tryz.prog 267 = true := by kernel_rfl
theorem tsz267 : tsz Tryz.prog 267 = 1 := by kernel_rfl
theorem tagg267 : tagg Tryz.prog 267 = false := by kernel_rfl
theorem tinfo267 : tinfo Tryz.prog 267 = some (1, 4) := by kernel_rfl
theorem tzc267 : tzc Tryz.prog 267 = some [.v (.int .i32 0)] := by kernel_rfl
theorem tzs267 : tzs Tryz.prog 267 = [0] := by kernel_rfl
theorem tund267 : Tryz.prog.underlying 267 = some (.int .i32) := by kernel_rfl
theorem tok268 : tok Tryz.prog 268 = true := by kernel_rfl
theorem tsz268 : tsz Tryz.prog 268 = 1 := by kernel_rfl
theorem tagg268 : tagg Tryz.prog 268 = false := by kernel_rfl
theorem tinfo268 : tinfo Tryz.prog 268 = some (1, 4) := by kernel_rfl
theorem tzc268 : tzc Tryz.prog 268 = some [.v (.int .i32 0)] := by kernel_rfl
theorem tzs268 : tzs Tryz.prog 268 = [0] := by kernel_rfl
theorem tund268 : Tryz.prog.underlying 268 = some (.int .i32) := by kernel_rfl
theorem tok269 : tok Tryz.prog 269 = true := by kernel_rfl
theorem tsz269 : tsz Tryz.prog 269 = 11 := by kernel_rfl
theorem tagg269 : tagg Tryz.prog 269 = true := by kernel_rfl
theorem tinfo269 : tinfo Tryz.prog 269 = some (11, 48) := by kernel_rfl
theorem tzc269 : tzc Tryz.prog 269 = some [.v (.int .u64 0), .v (.int .u64 0), .v (.int .u32 0), .v (.int .u8 0), .v (.int .u8 0), .v (.int .u8 0), .v (.int .u8 0), .v (.nilFunc), .v (.pointer none), .v (.int .i32 0), .v (.int .i32 0)] := by kernel_rfl
theorem tzs269 : tzs Tryz.prog 269 = [0, 0, 0, 0, 0, 0, 0, 0, 0, 0, 0] := by kernel_rfl
theorem tf269_0 : tfield Tryz.prog 269 0 = some (0, 12) := by kernel_rfl
theorem tf269_1 : tfield Tryz.prog 269 1 = some (1, 12) := by kernel_rfl
theorem tf269_2 : tfield Tryz.prog 269 2 = some (2, 235) := by kernel_rfl
theorem tf269_3 : tfield Tryz.prog 269 3 = some (3, 263) := by kernel_rfl
theorem tf269_4 : tfield Tryz.prog 269 4 = some (4, 5) := by kernel_rfl
theorem tf269_5 : tfield Tryz.prog 269 5 = some (5, 5) := by kernel_rfl
theorem tf269_6 : tfield Tryz.prog 269 6 = some (6, 264) := by kernel_rfl
theorem tf269_7 : tfield Tryz.prog 269 7 = some (7, 265) := by kernel_rfl
theorem tf269_8 : tfield Tryz.prog 269 8 = some (8, 266) := by kernel_rfl
theorem tf269_9 : tfield Tryz.prog 269 9 = some (9, 267) := by kernel_rfl
theorem tf269_10 : tfield Tryz.prog 269 10 = some (10, 268) := by kernel_rfl
theorem tok270 : tok Tryz.prog 270 = true := by kernel_rfl
theorem tsz270 : tsz Tryz.prog 270 = 11 := by kernel_rfl
theorem tagg270 : tagg Tryz.prog 270 = true := by kernel_rfl
theorem tinfo270 : tinfo Tryz.prog 270 = some (11, 48) := by kernel_rfl
theorem tzc270 : tzc Tryz.prog 270 = some [.v (.int .u64 0), .v (.int .u64 0), .v (.int .u32 0), .v (.int .u8 0), .v (.int .u8 0), .v (.int .u8 0), .v (.int .u8 0), .v (.nilFunc), .v (.pointer none), .v (.int .i32 0), .v (.int .i32 0)] := by kernel_rfl
theorem tzs270 : tzs Tryz.prog 270 = [0, 0, 0, 0, 0, 0, 0, 0, 0, 0, 0] := by kernel_rfl
theorem tf270_0 : tfield Tryz.prog 270 0 = some (0, 12) := by kernel_rfl
theorem tf270_1 : tfield Tryz.prog 270 1 = some (1, 12) := by kernel_rfl
theorem tf270_2 : tfield Tryz.prog 270 2 = some (2, 235) := by kernel_rfl
theorem tf270_3 : tfield Tryz.prog 270 3 = some (3, 263) := by kernel_rfl
theorem tf270_4 : tfield Tryz.prog 270 4 = some (4, 5) := by kernel_rfl
theorem tf270_5 : tfield Tryz.prog 270 5 = some (5, 5) := by kernel_rfl
theorem tf270_6 : tfield Tryz.prog 270 6 = some (6, 264) := by kernel_rfl
theorem tf270_7 : tfield Tryz.prog 270 7 = some (7, 265) := by kernel_rfl
theorem tf270_8 : tfield Tryz.prog 270 8 = some (8, 266) := by kernel_rfl
theorem tf270_9 : tfield Tryz.prog 270 9 = some (9, 267) := by kernel_rfl
theorem tf270_10 : tfield Tryz.prog 270 10 = some (10, 268) := by kernel_rfl
theorem tfn2 : tfunc Tryz.prog 2 = true := by unfold tfunc; rw [Tryz.func2]; rfl
theorem tfn3 : tfunc Tryz.prog 3 = true := by unfold tfunc; rw [Tryz.func3]; rfl
theorem tfn4 : tfunc Tryz.prog 4 = true := by unfold tfunc; rw [Tryz.func4]; rfl
theorem tfn5 : tfunc Tryz.prog 5 = true := by unfold tfunc; rw [Tryz.func5]; rfl
theorem tfn6 : tfunc Tryz.prog 6 = true := by unfold tfunc; rw [Tryz.func6]; rfl
theorem tfn7 : tfunc Tryz.prog 7 = true := by unfold tfunc; rw [Tryz.func7]; rfl
theorem tfn8 : tfunc Tryz.prog 8 = true := by unfold tfunc; rw [Tryz.func8]; rfl
theorem tfn9 : tfunc Tryz.prog 9 = true := by unfold tfunc; rw [Tryz.func9]; rfl
theorem tfn10 : tfunc Tryz.prog 10 = true := by unfold tfunc; rw [Tryz.func10]; rfl
theorem tfn11 : tfunc Tryz.prog 11 = true := by unfold tfunc; rw [Tryz.func11]; rfl
theorem tfn12 : tfunc Tryz.prog 12 = true := by unfold tfunc; rw [Tryz.func12]; rfl
theorem tfn13 : tfunc Tryz.prog 13 = true := by unfold tfunc; rw [Tryz.func13]; rfl
theorem tfn14 : tfunc Tryz.prog 14 = true := by unfold tfunc; rw [Tryz.func14]; rfl
theorem tfn15 : tfunc Tryz.prog 15 = true := by unfold tfunc; rw [Tryz.func15]; rfl
theorem tfn16 : tfunc Tryz.prog 16 = true := by unfold tfunc; rw [Tryz.func16]; rfl
theorem tfn17 : tfunc Tryz.prog 17 = true := by unfold tfunc; rw [Tryz.func17]; rfl
theorem tfn18 : tfunc Tryz.prog 18 = true := by unfold tfunc; rw [Tryz.func18]; rfl
theorem tfn19 : tfunc Tryz.prog 19 = true := by unfold tfunc; rw [Tryz.func19]; rfl
theorem tfn20 : tfunc Tryz.prog 20 = true := by unfold tfunc; rw [Tryz.func20]; rfl
theorem tfn21 : tfunc Tryz.prog 21 = true := by unfold tfunc; rw [Tryz.func21]; rfl
theorem tfn22 : tfunc Tryz.prog 22 = true := by unfold tfunc; rw [Tryz.func22]; rfl
theorem tfn23 : tfunc Tryz.prog 23 = true := by unfold tfunc; rw [Tryz.func23]; rfl
theorem tfn24 : tfunc Tryz.prog 24 = true := by unfold tfunc; rw [Tryz.func24]; rfl
theorem tfn25 : tfunc Tryz.prog 25 = true := by unfold tfunc; rw [Tryz.func25]; rfl
theorem tfn26 : tfunc Tryz.prog 26 = true := by unfold tfunc; rw [Tryz.func26]; rfl
theorem tfn27 : tfunc Tryz.prog 27 = true := by unfold tfunc; rw [Tryz.func27]; rfl
theorem tfn28 : tfunc Tryz.prog 28 = true := by unfold tfunc; rw [Tryz.func28]; rfl
theorem tfn29 : tfunc Tryz.prog 29 = true := by unfold tfunc; rw [Tryz.func29]; rfl
theorem tfn30 : tfunc Tryz.prog 30 = true := by unfold tfunc; rw [Tryz.func30]; rfl
theorem tfn31 : tfunc Tryz.prog 31 = true := by unfold tfunc; rw [Tryz.func31]; rfl
theorem tfn32 : tfunc Tryz.prog 32 = true := by unfold tfunc; rw [Tryz.func32]; rfl
theorem tfn33 : tfunc Tryz.prog 33 = true := by unfold tfunc; rw [Tryz.func33]; rfl
theorem tfn34 : tfunc Tryz.prog 34 = true := by unfold tfunc; rw [Tryz.func34]; rfl
theorem tfn35 : tfunc Tryz.prog 35 = true := by unfold tfunc; rw [Tryz.func35]; rfl
theorem tfn36 : tfunc Tryz.prog 36 = true := by unfold tfunc; rw [Tryz.func36]; rfl
theorem tfn37 : tfunc Tryz.prog 37 = true := by unfold tfunc; rw [Tryz.func37]; rfl
theorem tfn38 : tfunc Tryz.prog 38 = true := by unfold tfunc; rw [Tryz.func38]; rfl
theorem tfn39 : tfunc Tryz.prog 39 = true := by unfold tfunc; rw [Tryz.func39]; rfl
theorem tfn40 : tfunc Tryz.prog 40 = true := by unfold tfunc; rw [Tryz.func40]; rfl
theorem tfn41 : tfunc Tryz.prog 41 = true := by unfold tfunc; rw [Tryz.func41]; rfl
theorem tfn42 : tfunc Tryz.prog 42 = true := by unfold tfunc; rw [Tryz.func42]; rfl
theorem tfn43 : tfunc Tryz.prog 43 = true := by unfold tfunc; rw [Tryz.func43]; rfl
theorem tfn44 : tfunc Tryz.prog 44 = true := by unfold tfunc; rw [Tryz.func44]; rfl
theorem tfn45 : tfunc Tryz.prog 45 = true := by unfold tfunc; rw [Tryz.func45]; rfl
theorem tfn46 : tfunc Tryz.prog 46 = true := by unfold tfunc; rw [Tryz.func46]; rfl
theorem tfn47 : tfunc Tryz.prog 47 = true := by unfold tfunc; rw [Tryz.func47]; rfl
theorem tfn48 : tfunc Tryz.prog 48 = true := by unfold tfunc; rw [Tryz.func48]; rfl
theorem tfn49 : tfunc Tryz.prog 49 = true := by unfold tfunc; rw [Tryz.func49]; rfl
theorem tfn50 : tfunc Tryz.prog 50 = true := by unfold tfunc; rw [Tryz.func50]; rfl
theorem tfn51 : tfunc Tryz.prog 51 = true := by unfold tfunc; rw [Tryz.func51]; rfl
theorem tfn52 : tfunc Tryz.prog 52 = true := by unfold tfunc; rw [Tryz.func52]; rfl
theorem tfn53 : tfunc Tryz.prog 53 = true := by unfold tfunc; rw [Tryz.func53]; rfl
theorem tfn54 : tfunc Tryz.prog 54 = true := by unfold tfunc; rw [Tryz.func54]; rfl
theorem tfn55 : tfunc Tryz.prog 55 = true := by unfold tfunc; rw [Tryz.func55]; rfl
theorem tfn56 : tfunc Tryz.prog 56 = true := by unfold tfunc; rw [Tryz.func56]; rfl
theorem tfn57 : tfunc Tryz.prog 57 = true := by unfold tfunc; rw [Tryz.func57]; rfl
theorem tfn58 : tfunc Tryz.prog 58 = true := by unfold tfunc; rw [Tryz.func58]; rfl
theorem tfn59 : tfunc Tryz.prog 59 = true := by unfold tfunc; rw [Tryz.func59]; rfl
theorem tfn60 : tfunc Tryz.prog 60 = true := by unfold tfunc; rw [Tryz.func60]; rfl
theorem tfn61 : tfunc Tryz.prog 61 = true := by unfold tfunc; rw [Tryz.func61]; rfl
theorem tfn62 : tfunc Tryz.prog 62 = true := by unfold tfunc; rw [Tryz.func62]; rfl
theorem tfn63 : tfunc Tryz.prog 63 = true := by unfold tfunc; rw [Tryz.func63]; rfl
theorem tfn64 : tfunc Tryz.prog 64 = true := by unfold tfunc; rw [Tryz.func64]; rfl
theorem tfn65 : tfunc Tryz.prog 65 = true := by unfold tfunc; rw [Tryz.func65]; rfl
theorem tfn66 : tfunc Tryz.prog 66 = true := by unfold tfunc; rw [Tryz.func66]; rfl
theorem tfn67 : tfunc Tryz.prog 67 = true := by unfold tfunc; rw [Tryz.func67]; rfl
theorem tfn68 : tfunc Tryz.prog 68 = true := by unfold tfunc; rw [Tryz.func68]; rfl
theorem tfn69 : tfunc Tryz.prog 69 = true := by unfold tfunc; rw [Tryz.func69]; rfl
theorem tfn70 : tfunc Tryz.prog 70 = true := by unfold tfunc; rw [Tryz.func70]; rfl
theorem tfn71 : tfunc Tryz.prog 71 = true := by unfold tfunc; rw [Tryz.func71]; rfl
theorem tfn72 : tfunc Tryz.prog 72 = true := by unfold tfunc; rw [Tryz.func72]; rfl
theorem tfn73 : tfunc Tryz.prog 73 = true := by unfold tfunc; rw [Tryz.func73]; rfl
theorem tfn74 : tfunc Tryz.prog 74 = true := by unfold tfunc; rw [Tryz.func74]; rfl
theorem tfn75 : tfunc Tryz.prog 75 = true := by unfold tfunc; rw [Tryz.func75]; rfl
theorem tfn76 : tfunc Tryz.prog 76 = true := by unfold tfunc; rw [Tryz.func76]; rfl
theorem tfn77 : tfunc Tryz.prog 77 = true := by unfold tfunc; rw [Tryz.func77]; rfl
theorem tfn78 : tfunc Tryz.prog 78 = true := by unfold tfunc; rw [Tryz.func78]; rfl
theorem tfn79 : tfunc Tryz.prog 79 = true := by unfold tfunc; rw [Tryz.func79]; rfl
theorem tfn80 : tfunc Tryz.prog 80 = true := by unfold tfunc; rw [Tryz.func80]; rfl
theorem tfn81 : tfunc Tryz.prog 81 = true := by unfold tfunc; rw [Tryz.func81]; rfl
theorem tfn82 : tfunc Tryz.prog 82 = true := by unfold tfunc; rw [Tryz.func82]; rfl
theorem tfn83 : tfunc Tryz.prog 83 = true := by unfold tfunc; rw [Tryz.func83]; rfl
theorem tfn84 : tfunc Tryz.prog 84 = true := by unfold tfunc; rw [Tryz.func84]; rfl
theorem tfn85 : tfunc Tryz.prog 85 = true := by unfold tfunc; rw [Tryz.func85]; rfl
theorem tfn86 : tfunc Tryz.prog 86 = true := by unfold tfunc; rw [Tryz.func86]; rfl
theorem tfn87 : tfunc Tryz.prog 87 = true := by unfold tfunc; rw [Tryz.func87]; rfl
theorem tfn88 : tfunc Tryz.prog 88 = true := by unfold tfunc; rw [Tryz.func88]; rfl
theorem tfn89 : tfunc Tryz.prog 89 = true := by unfold tfunc; rw [Tryz.func89]; rfl
theorem tfn90 : tfunc Tryz.prog 90 = true := by unfold tfunc; rw [Tryz.func90]; rfl
theorem tfn91 : tfunc Tryz.prog 91 = true := by unfold tfunc; rw [Tryz.func91]; rfl
theorem tfn92 : tfunc Tryz.prog 92 = true := by unfold tfunc; rw [Tryz.func92]; rfl
theorem tfn93 : tfunc Tryz.prog 93 = true := by unfold tfunc; rw [Tryz.func93]; rfl
theorem tfn94 : tfunc Tryz.prog 94 = true := by unfold tfunc; rw [Tryz.func94]; rfl
theorem tfn95 : tfunc Tryz.prog 95 = true := by unfold tfunc; rw [Tryz.func95]; rfl
theorem tfn96 : tfunc Tryz.prog 96 = true := by unfold tfunc; rw [Tryz.func96]; rfl
theorem tfn97 : tfunc Tryz.prog 97 = true := by unfold tfunc; rw [Tryz.func97]; rfl
theorem tfn98 : tfunc Tryz.prog 98 = true := by unfold tfunc; rw [Tryz.func98]; rfl
theorem tfn99 : tfunc Tryz.prog 99 = true := by unfold tfunc; rw [Tryz.func99]; rfl
theorem tfn100 : tfunc Tryz.prog 100 = true := by unfold tfunc; rw [Tryz.func100]; rfl
theorem tfn101 : tfunc Tryz.prog 101 = true := by unfold tfunc; rw [Tryz.func101]; rfl
theorem tfn102 : tfunc Tryz.prog 102 = true := by unfold tfunc; rw [Tryz.func102]; rfl
theorem tfn103 : tfunc Tryz.prog 103 = true := by unfold tfunc; rw [Tryz.func103]; rfl
theorem tfn104 : tfunc Tryz.prog 104 = true := by unfold tfunc; rw [Tryz.func104]; rfl
theorem tfn105 : tfunc Tryz.prog 105 = true := by unfold tfunc; rw [Tryz.func105]; rfl
theorem tfn106 : tfunc Tryz.prog 106 = true := by unfold tfunc; rw [Tryz.func106]; rfl
theorem tfn107 : tfunc Tryz.prog 107 = true := by unfold tfunc; rw [Tryz.func107]; rfl
theorem tfn108 : tfunc Tryz.prog 108 = true := by unfold tfunc; rw [Tryz.func108]; rfl
theorem tfn109 : tfunc Tryz.prog 109 = true := by unfold tfunc; rw [Tryz.func109]; rfl
theorem tfn110 : tfunc Tryz.prog 110 = true := by unfold tfunc; rw [Tryz.func110]; rfl
theorem tfn111 : tfunc Tryz.prog 111 = true := by unfold tfunc; rw [Tryz.func111]; rfl
theorem tfn112 : tfunc Tryz.prog 112 = true := by unfold tfunc; rw [Tryz.func112]; rfl
theorem tfn113 : tfunc Tryz.prog 113 = true := by unfold tfunc; rw [Tryz.func113]; rfl
theorem tfn114 : tfunc Tryz.prog 114 = true := by unfold tfunc; rw [Tryz.func114]; rfl
theorem tfn115 : tfunc Tryz.prog 115 = true := by unfold tfunc; rw [Tryz.func115]; rfl
theorem tfn116 : tfunc Tryz.prog 116 = true := by unfold tfunc; rw [Tryz.func116]; rfl
theorem tfn117 : tfunc Tryz.prog 117 = true := by unfold tfunc; rw [Tryz.func117]; rfl
theorem tfn118 : tfunc Tryz.prog 118 = true := by unfold tfunc; rw [Tryz.func118]; rfl
theorem tfn119 : tfunc Tryz.prog 119 = true := by unfold tfunc; rw [Tryz.func119]; rfl
theorem tfn120 : tfunc Tryz.prog 120 = true := by unfold tfunc; rw [Tryz.func120]; rfl
theorem tfn121 : tfunc Tryz.prog 121 = true := by unfold tfunc; rw [Tryz.func121]; rfl
theorem tfn122 : tfunc Tryz.prog 122 = true := by unfold tfunc; rw [Tryz.func122]; rfl
theorem tfn123 : tfunc Tryz.prog 123 = true := by unfold tfunc; rw [Tryz.func123]; rfl
theorem tfn124 : tfunc Tryz.prog 124 = true := by unfold tfunc; rw [Tryz.func124]; rfl
theorem tfn125 : tfunc Tryz.prog 125 = true := by unfold tfunc; rw [Tryz.func125]; rfl
theorem tfn126 : tfunc Tryz.prog 126 = true := by unfold tfunc; rw [Tryz.func126]; rfl
theorem tfn127 : tfunc Tryz.prog 127 = true := by unfold tfunc; rw [Tryz.func127]; rfl
theorem tfn128 : tfunc Tryz.prog 128 = true := by unfold tfunc; rw [Tryz.func128]; rfl
theorem tfn129 : tfunc Tryz.prog 129 = true := by unfold tfunc; rw [Tryz.func129]; rfl
theorem tfn130 : tfunc Tryz.prog 130 = true := by unfold tfunc; rw [Tryz.func130]; rfl
theorem tfn131 : tfunc Tryz.prog 131 = true := by unfold tfunc; rw [Tryz.func131]; rfl
theorem tfn132 : tfunc Tryz.prog 132 = true := by unfold tfunc; rw [Tryz.func132]; rfl
theorem tfn133 : tfunc Tryz.prog 133 = true := by unfold tfunc; rw [Tryz.func133]; rfl
theorem tfn134 : tfunc Tryz.prog 134 = true := by unfold tfunc; rw [Tryz.func134]; rfl
theorem tfn135 : tfunc Tryz.prog 135 = true := by unfold tfunc; rw [Tryz.func135]; rfl
theorem tfn136 : tfunc Tryz.prog 136 = true := by unfold tfunc; rw [Tryz.func136]; rfl
theorem tfn137 : tfunc Tryz.prog 137 = true := by unfold tfunc; rw [Tryz.func137]; rfl
theorem tfn138 : tfunc Tryz.prog 138 = true := by unfold tfunc; rw [Tryz.func138]; rfl
theorem tfn139 : tfunc Tryz.prog 139 = true := by unfold tfunc; rw [Tryz.func139]; rfl
theorem tfn140 : tfunc Tryz.prog 140 = true := by unfold tfunc; rw [Tryz.func140]; rfl
theorem tfn141 : tfunc Tryz.prog 141 = true := by unfold tfunc; rw [Tryz.func141]; rfl
theorem tfn142 : tfunc Tryz.prog 142 = true := by unfold tfunc; rw [Tryz.func142]; rfl
theorem tfn143 : tfunc Tryz.prog 143 = true := by unfold tfunc; rw [Tryz.func143]; rfl
theorem tfn144 : tfunc Tryz.prog 144 = true := by unfold tfunc; rw [Tryz.func144]; rfl
theorem tfn145 : tfunc Tryz.prog 145 = true := by unfold tfunc; rw [Tryz.func145]; rfl
theorem tfn146 : tfunc Tryz.prog 146 = true := by unfold tfunc; rw [Tryz.func146]; rfl
theorem tfn147 : tfunc Tryz.prog 147 = true := by unfold tfunc; rw [Tryz.func147]; rfl
theorem tfn148 : tfunc Tryz.prog 148 = true := by unfold tfunc; rw [Tryz.func148]; rfl
theorem tfn149 : tfunc Tryz.prog 149 = true := by unfold tfunc; rw [Tryz.func149]; rfl
theorem tfn150 : tfunc Tryz.prog 150 = true := by unfold tfunc; rw [Tryz.func150]; rfl
theorem tfn151 : tfunc Tryz.prog 151 = true := by unfold tfunc; rw [Tryz.func151]; rfl
theorem tfn152 : tfunc Tryz.prog 152 = true := by unfold tfunc; rw [Tryz.func152]; rfl
theorem tfn153 : tfunc Tryz.prog 153 = true := by unfold tfunc; rw [Tryz.func153]; rfl
theorem tfn154 : tfunc Tryz.prog 154 = true := by unfold tfunc; rw [Tryz.func154]; rfl
theorem tfn155 : tfunc Tryz.prog 155 = true := by unfold tfunc; rw [Tryz.func155]; rfl
theorem tfn156 : tfunc Tryz.prog 156 = true := by unfold tfunc; rw [Tryz.func156]; rfl
theorem tfn157 : tfunc Tryz.prog 157 = true := by unfold tfunc; rw [Tryz.func157]; rfl
theorem tfn158 : tfunc Tryz.prog 158 = true := by unfold tfunc; rw [Tryz.func158]; rfl
theorem tfn159 : tfunc Tryz.prog 159 = true := by unfold tfunc; rw [Tryz.func159]; rfl
theorem tfn160 : tfunc Tryz.prog 160 = true := by unfold tfunc; rw [Tryz.func160]; rfl
theorem tfn161 : tfunc Tryz.prog 161 = true := by unfold tfunc; rw [Tryz.func161]; rfl
theorem tfn162 : tfunc Tryz.prog 162 = true := by unfold tfunc; rw [Tryz.func162]; rfl
theorem tfn163 : tfunc Tryz.prog 163 = true := by unfold tfunc; rw [Tryz.func163]; rfl
theorem tfn164 : tfunc Tryz.prog 164 = true := by unfold tfunc; rw [Tryz.func164]; rfl
theorem tfn165 : tfunc Tryz.prog 165 = true := by unfold tfunc; rw [Tryz.func165]; rfl
theorem tfn166 : tfunc Tryz.prog 166 = true := by unfold tfunc; rw [Tryz.func166]; rfl
theorem tfn167 : tfunc Tryz.prog 167 = true := by unfold tfunc; rw [Tryz.func167]; rfl
theorem tfn168 : tfunc Tryz.prog 168 = true := by unfold tfunc; rw [Tryz.func168]; rfl
theorem tfn169 : tfunc Tryz.prog 169 = true := by unfold tfunc; rw [Tryz.func169]; rfl
theorem tfn170 : tfunc Tryz.prog 170 = true := by unfold tfunc; rw [Tryz.func170]; rfl
theorem tfn171 : tfunc Tryz.prog 171 = true := by unfold tfunc; rw [Tryz.func171]; rfl
theorem tfn172 : tfunc Tryz.prog 172 = true := by unfold tfunc; rw [Tryz.func172]; rfl
theorem tfn173 : tfunc Tryz.prog 173 = true := by unfold tfunc; rw [Tryz.func173]; rfl
theorem tfn174 : tfunc Tryz.prog 174 = true := by unfold tfunc; rw [Tryz.func174]; rfl
theorem tfn175 : tfunc Tryz.prog 175 = true := by unfold tfunc; rw [Tryz.func175]; rfl
theorem tfn176 : tfunc Tryz.prog 176 = true := by unfold tfunc; rw [Tryz.func176]; rfl
theorem tfn177 : tfunc Tryz.prog 177 = true := by unfold tfunc; rw [Tryz.func177]; rfl
theorem tfn178 : tfunc Tryz.prog 178 = true := by unfold tfunc; rw [Tryz.func178]; rfl
theorem tfn179 : tfunc Tryz.prog 179 = true := by unfold tfunc; rw [Tryz.func179]; rfl
theorem tfn180 : tfunc Tryz.prog 180 = true := by unfold tfunc; rw [Tryz.func180]; rfl
theorem tfn181 : tfunc Tryz.prog 181 = true := by unfold tfunc; rw [Tryz.func181]; rfl
theorem tfn182 : tfunc Tryz.prog 182 = true := by unfold tfunc; rw [Tryz.func182]; rfl
theorem tfn183 : tfunc Tryz.prog 183 = true := by unfold tfunc; rw [Tryz.func183]; rfl
theorem tfn184 : tfunc Tryz.prog 184 = true := by unfold tfunc; rw [Tryz.func184]; rfl
theorem tfn185 : tfunc Tryz.prog 185 = true := by unfold tfunc; rw [Tryz.func185]; rfl
theorem tfn186 : tfunc Tryz.prog 186 = true := by unfold tfunc; rw [Tryz.func186]; rfl
theorem tfn187 : tfunc Tryz.prog 187 = true := by unfold tfunc; rw [Tryz.func187]; rfl
theorem tfn188 : tfunc Tryz.prog 188 = true := by unfold tfunc; rw [Tryz.func188]; rfl
theorem tfn189 : tfunc Tryz.prog 189 = true := by unfold tfunc; rw [Tryz.func189]; rfl
theorem tfn190 : tfunc Tryz.prog 190 = true := by unfold tfunc; rw [Tryz.func190]; rfl
theorem tfn191 : tfunc Tryz.prog 191 = true := by unfold tfunc; rw [Tryz.func191]; rfl
theorem tfn192 : tfunc Tryz.prog 192 = true := by unfold tfunc; rw [Tryz.func192]; rfl
theorem tfn193 : tfunc Tryz.prog 193 = true := by unfold tfunc; rw [Tryz.func193]; rfl
theorem tfn194 : tfunc Tryz.prog 194 = true := by unfold tfunc; rw [Tryz.func194]; rfl
theorem tfn195 : tfunc Tryz.prog 195 = true := by unfold tfunc; rw [Tryz.func195]; rfl
theorem tfn196 : tfunc Tryz.prog 196 = true := by unfold tfunc; rw [Tryz.func196]; rfl
theorem tfn197 : tfunc Tryz.prog 197 = true := by unfold tfunc; rw [Tryz.func197]; rfl
theorem tfn198 : tfunc Tryz.prog 198 = true := by unfold tfunc; rw [Tryz.func198]; rfl
theorem tfn199 : tfunc Tryz.prog 199 = true := by unfold tfunc; rw [Tryz.func199]; rfl
theorem tfn200 : tfunc Tryz.prog 200 = true := by unfold tfunc; rw [Tryz.func200]; rfl
theorem tfn201 : tfunc Tryz.prog 201 = true := by unfold tfunc; rw [Tryz.func201]; rfl
theorem tfn203 : tfunc Tryz.prog 203 = true := by unfold tfunc; rw [Tryz.func203]; rfl
theorem tfn204 : tfunc Tryz.prog 204 = true := by unfold tfunc; rw [Tryz.func204]; rfl
theorem tfn205 : tfunc Tryz.prog 205 = true := by unfold tfunc; rw [Tryz.func205]; rfl
theorem tfn206 : tfunc Tryz.prog 206 = true := by unfold tfunc; rw [Tryz.func206]; rfl
theorem tfn207 : tfunc Tryz.prog 207 = true := by unfold tfunc; rw [Tryz.func207]; rfl
theorem tfn208 : tfunc Tryz.prog 208 = true := by unfold tfunc; rw [Tryz.func208]; rfl
theorem tfn209 : tfunc Tryz.prog 209 = true := by unfold tfunc; rw [Tryz.func209]; rfl
theorem tfn210 : tfunc Tryz.prog 210 = true := by unfold tfunc; rw [Tryz.func210]; rfl
theorem tfn211 : tfunc Tryz.prog 211 = true := by unfold tfunc; rw [Tryz.func211]; rfl
theorem tfn212 : tfunc Tryz.prog 212 = true := by unfold tfunc; rw [Tryz.func212]; rfl
theorem tfn213 : tfunc Tryz.prog 213 = true := by unfold tfunc; rw [Tryz.func213]; rfl
theorem tfn214 : tfunc Tryz.prog 214 = true := by unfold tfunc; rw [Tryz.func214]; rfl
theorem tfn215 : tfunc Tryz.prog 215 = true := by unfold tfunc; rw [Tryz.func215]; rfl
theorem tfn216 : tfunc Tryz.prog 216 = true := by unfold tfunc; rw [Tryz.func216]; rfl
theorem tfn217 : tfunc Tryz.prog 217 = true := by unfold tfunc; rw [Tryz.func217]; rfl
theorem tfn218 : tfunc Tryz.prog 218 = true := by unfold tfunc; rw [Tryz.func218]; rfl
theorem tfn219 : tfunc Tryz.prog 219 = true := by unfold tfunc; rw [Tryz.func219]; rfl
theorem tfn220 : tfunc Tryz.prog 220 = true := by unfold tfunc; rw [Tryz.func220]; rfl
theorem tfn221 : tfunc Tryz.prog 221 = true := by unfold tfunc; rw [Tryz.func221]; rfl
theorem tfn222 : tfunc Tryz.prog 222 = true := by unfold tfunc; rw [Tryz.func222]; rfl
theorem tfn223 : tfunc Tryz.prog 223 = true := by unfold tfunc; rw [Tryz.func223]; rfl
theorem tfn224 : tfunc Tryz.prog 224 = true := by unfold tfunc; rw [Tryz.func224]; rfl
theorem tfn225 : tfunc Tryz.prog 225 = true := by unfold tfunc; rw [Tryz.func225]; rfl
theorem tfn226 : tfunc Tryz.prog 226 = true := by unfold tfunc; rw [Tryz.func226]; rfl
theorem tfn227 : tfunc Tryz.prog 227 = true := by unfold tfunc; rw [Tryz.func227]; rfl
theorem tfn228 : tfunc Tryz.prog 228 = true := by unfold tfunc; rw [Tryz.func228]; rfl
theorem tfn229 : tfunc Tryz.prog 229 = true := by unfold tfunc; rw [Tryz.func229]; rfl
theorem tfn230 : tfunc Tryz.prog 230 = true := by unfold tfunc; rw [Tryz.func230]; rfl
theorem tfn231 : tfunc Tryz.prog 231 = true := by unfold tfunc; rw [Tryz.func231]; rfl
theorem tfn232 : tfunc Tryz.prog 232 = true := by unfold tfunc; rw [Tryz.func232]; rfl
theorem tfn233 : tfunc Tryz.prog 233 = true := by unfold tfunc; rw [Tryz.func233]; rfl
attribute [simp] tok2 tsz2 tagg2 tinfo2 tzc2 tzs2 tund2 tok3 tsz3 tagg3 tinfo3 tzc3 tzs3 tund3 tok4 tsz4 tagg4 tinfo4 tzc4 tzs4 tund4 tok5 tsz5 tagg5 tinfo5 tzc5 tzs5 tund5 tok6 tsz6 tagg6 tinfo6 tzc6 tzs6 tund6 tok22 tsz22 tagg22 tinfo22 tzc22 tzs22 tel22 tok23 tsz23 tagg23 tinfo23 tzc23 tzs23 tel23 tok24 tsz24 tagg24 tinfo24 tzc24 tzs24 tf24_0 tf24_1 tf24_2 tf24_3 tpl24 tok25 tsz25 tagg25 tinfo25 tzc25 tzs25 tf25_0 tf25_1 tf25_2 tf25_3 tpl25 tok27 tsz27 tagg27 tinfo27 tzc27 tzs27 tel27 tok28 tsz28 tagg28 tinfo28 tzc28 tzs28 tel28 tok29 tsz29 tagg29 tinfo29 tzc29 tzs29 tf29_0 tf29_1 tf29_2 tf29_3 tpl29 tok30 tsz30 tagg30 tinfo30 tzc30 tzs30 tf30_0 tf30_1 tf30_2 tf30_3 tpl30 tok31 tsz31 tagg31 tinfo31 tzc31 tzs31 tf31_0 tf31_1 tf31_2 tpl31 tok32 tsz32 tagg32 tinfo32 tzc32 tzs32 tf32_0 tf32_1 tf32_2 tpl32 tok46 tsz46 tagg46 tinfo46 tzc46 tzs46 tel46 tok48 tsz48 tagg48 tinfo48 tzc48 tzs48 tel48 tok49 tsz49 tagg49 tinfo49 tzc49 tzs49 tf49_0 tf49_1 tpl49 tok50 tsz50 tagg50 tinfo50 tzc50 tzs50 tf50_0 tf50_1 tpl50 tok52 tsz52 tagg52 tinfo52 tzc52 tzs52 tel52 tok59 tsz59 tagg59 tinfo59 tzc59 tzs59 tf59_0 tf59_1 tpl59 tok60 tsz60 tagg60 tinfo60 tzc60 tzs60 tf60_0 tf60_1 tpl60 tok67 tsz67 tagg67 tinfo67 tzc67 tzs67 tel67 tok72 tsz72 tagg72 tinfo72 tzc72 tzs72 tf72_0 tf72_1 tpl72 tok73 tsz73 tagg73 tinfo73 tzc73 tzs73 tf73_0 tf73_1 tpl73 tok79 tsz79 tagg79 tinfo79 tzc79 tzs79 tok83 tsz83 tagg83 tinfo83 tzc83 tzs83 tel83 tok84 tsz84 tagg84 tinfo84 tzc84 tzs84 tf84_0 tf84_1 tf84_2 tf84_3 tf84_4 tpl84 tok85 tsz85 tagg85 tinfo85 tzc85 tzs85 tf85_0 tf85_1 tf85_2 tf85_3 tf85_4 tpl85 tok89 tsz89 tagg89 tinfo89 tzc89 tzs89 tok108 tsz108 tagg108 tinfo108 tzc108 tzs108 tf108_0 tf108_1 tpl108 tok109 tsz109 tagg109 tinfo109 tzc109 tzs109 tf109_0 tf109_1 tpl109 tok112 tsz112 tagg112 tinfo112 tzc112 tzs112 tel112 tok116 tsz116 tagg116 tinfo116 tzc116 tzs116 tf116_0 tf116_1 tpl116 tok117 tsz117 tagg117 tinfo117 tzc117 tzs117 tf117_0 tf117_1 tpl117 tok119 tsz119 tagg119 tinfo119 tzc119 tzs119 tf119_0 tf119_1 tpl119 tok126 tsz126 tagg126 tinfo126 tzc126 tzs126 tok132 tsz132 tagg132 tinfo132 tzc132 tzs132 tf132_0 tf132_1 tpl132 tok133 tsz133 tagg133 tinfo133 tzc133 tzs133 tf133_0 tf133_1 tpl133 tok134 tsz134 tagg134 tinfo134 tzc134 tzs134 tf134_0 tf134_1 tf134_2 tf134_3 tpl134 tok135 tsz135 tagg135 tinfo135 tzc135 tzs135 tf135_0 tf135_1 tf135_2 tf135_3 tpl135 tok142 tsz142 tagg142 tinfo142 tzc142 tzs142 tf142_0 tf142_1 tf142_2 tf142_3 tpl142 tok143 tsz143 tagg143 tinfo143 tzc143 tzs143 tf143_0 tf143_1 tf143_2 tf143_3 tpl143 tok147 tsz147 tagg147 tinfo147 tzc147 tzs147 tel147 tok148 tsz148 tagg148 tinfo148 tzc148 tzs148 tf148_0 tf148_1 tf148_2 tf148_3 tf148_4 tpl148 tok149 tsz149 tagg149 tinfo149 tzc149 tzs149 tf149_0 tf149_1 tf149_2 tf149_3 tf149_4 tpl149 tok151 tsz151 tagg151 tinfo151 tzc151 tzs151 tel151 tok152 tsz152 tagg152 tinfo152 tzc152 tzs152 tf152_0 tf152_1 tpl152 tok153 tsz153 tagg153 tinfo153 tzc153 tzs153 tf153_0 tf153_1 tpl153 tok173 tsz173 tagg173 tinfo173 tzc173 tzs173 tf173_0 tf173_1 tpl173 tok174 tsz174 tagg174 tinfo174 tzc174 tzs174 tf174_0 tf174_1 tpl174 tok190 tsz190 tagg190 tinfo190 tzc190 tzs190 tf190_0 tf190_1 tpl190 tok191 tsz191 tagg191 tinfo191 tzc191 tzs191 tf191_0 tf191_1 tpl191 tok204 tsz204 tagg204 tinfo204 tzc204 tzs204 tok213 tsz213 tagg213 tinfo213 tzc213 tzs213 tund213 tok220 tsz220 tagg220 tinfo220 tzc220 tzs220 tf220_0 tf220_1 tf220_2 tf220_3 tpl220 tok222 tsz222 tagg222 tinfo222 tzc222 tzs222 tf222_0 tf222_1 tf222_2 tf222_3 tpl222 tok228 tsz228 tagg228 tinfo228 tzc228 tzs228 tund228 tok235 tsz235 tagg235 tinfo235 tzc235 tzs235 tund235 tok237 tsz237 tagg237 tinfo237 tzc237 tzs237 tund237 tok238 tsz238 tagg238 tinfo238 tzc238 tzs238 tel238 tok239 tsz239 tagg239 tinfo239 tzc239 tzs239 tel239 tok243 tsz243 tagg243 tinfo243 tzc243 tzs243 tund243 tok247 tsz247 tagg247 tinfo247 tzc247 tzs247 tok250 tsz250 tagg250 tinfo250 tzc250 tzs250 tf250_0 tf250_1 tpl250 tok251 tsz251 tagg251 tinfo251 tzc251 tzs251 tf251_0 tf251_1 tpl251 tok253 tsz253 tagg253 tinfo253 tzc253 tzs253 tok257 tsz257 tagg257 tinfo257 tzc257 tzs257 tf257_0 tf257_1 tf257_2 tf257_3 tpl257 tok258 tsz258 tagg258 tinfo258 tzc258 tzs258 tf258_0 tf258_1 tf258_2 tf258_3 tpl258 tok260 tsz260 tagg260 tinfo260 tzc260 tzs260 tf260_0 tok261 tsz261 tagg261 tinfo261 tzc261 tzs261 tf261_0 tok263 tsz263 tagg263 tinfo263 tzc263 tzs263 tund263 tok264 tsz264 tagg264 tinfo264 tzc264 tzs264 tund264 tok266 tsz266 tagg266 tinfo266 tzc266 tzs266 tok267 tsz267 tagg267 tinfo267 tzc267 tzs267 tund267 tok268 tsz268 tagg268 tinfo268 tzc268 tzs268 tund268 tok269 tsz269 tagg269 tinfo269 tzc269 tzs269 tf269_0 tf269_1 tf269_2 tf269_3 tf269_4 tf269_5 tf269_6 tf269_7 tf269_8 tf269_9 tf269_10 tok270 tsz270 tagg270 tinfo270 tzc270 tzs270 tf270_0 tf270_1 tf270_2 tf270_3 tf270_4 tf270_5 tf270_6 tf270_7 tf270_8 tf270_9 tf270_10 tfn2 tfn3 tfn4 tfn5 tfn6 tfn7 tfn8 tfn9 tfn10 tfn11 tfn12 tfn13 tfn14 tfn15 tfn16 tfn17 tfn18 tfn19 tfn20 tfn21 tfn22 tfn23 tfn24 tfn25 tfn26 tfn27 tfn28 tfn29 tfn30 tfn31 tfn32 tfn33 tfn34 tfn35 tfn36 tfn37 tfn38 tfn39 tfn40 tfn41 tfn42 tfn43 tfn44 tfn45 tfn46 tfn47 tfn48 tfn49 tfn50 tfn51 tfn52 tfn53 tfn54 tfn55 tfn56 tfn57 tfn58 tfn59 tfn60 tfn61 tfn62 tfn63 tfn64 tfn65 tfn66 tfn67 tfn68 tfn69 tfn70 tfn71 tfn72 tfn73 tfn74 tfn75 tfn76 tfn77 tfn78 tfn79 tfn80 tfn81 tfn82 tfn83 tfn84 tfn85 tfn86 tfn87 tfn88 tfn89 tfn90 tfn91 tfn92 tfn93 tfn94 tfn95 tfn96 tfn97 tfn98 tfn99 tfn100 tfn101 tfn102 tfn103 tfn104 tfn105 tfn106 tfn107 tfn108 tfn109 tfn110 tfn111 tfn112 tfn113 tfn114 tfn115 tfn116 tfn117 tfn118 tfn119 tfn120 tfn121 tfn122 tfn123 tfn124 tfn125 tfn126 tfn127 tfn128 tfn129 tfn130 tfn131 tfn132 tfn133 tfn134 tfn135 tfn136 tfn137 tfn138 tfn139 tfn140 tfn141 tfn142 tfn143 tfn144 tfn145 tfn146 tfn147 tfn148 tfn149 tfn150 tfn151 tfn152 tfn153 tfn154 tfn155 tfn156 tfn157 tfn158 tfn159 tfn160 tfn161 tfn162 tfn163 tfn164 tfn165 tfn166 tfn167 tfn168 tfn169 tfn170 tfn171 tfn172 tfn173 tfn174 tfn175 tfn176 tfn177 tfn178 tfn179 tfn180 tfn181 tfn182 tfn183 tfn184 tfn185 tfn186 tfn187 tfn188 tfn189 tfn190 tfn191 tfn192 tfn193 tfn194 tfn195 tfn196 tfn197 tfn198 tfn199 tfn200 tfn201 tfn203 tfn204 tfn205 tfn206 tfn207 tfn208 tfn209 tfn210 tfn211 tfn212 tfn213 tfn214 tfn215 tfn216 tfn217 tfn218 tfn219 tfn220 tfn221 tfn222 tfn223 tfn224 tfn225 tfn226 tfn227 tfn228 tfn229 tfn230 tfn231 tfn232 tfn233
end Go.Proofs.YtnlbjfdmjlnlgaaGreat.Ty


namespace Go.Proofs.YtnlbjfdmjlnlgaaGreat
open Go Go.Px Go.RowKit Go.Proofs
set_option linter.unnecessarySimpa false
set_option linter.unusedVariables false
set_option linter.unusedSimpArgs false
set_option maxRecDepth 100000
set_option maxHeartbeats 1000000
attribute [-simp] Int.not_le Int.not_lt

def okUndo (B : Nat) (r : List Cell) : Prop := ∃ a0 a1 a2 a3, r = [.v (.int .i64 a0), .v (.bool a1), .v (.bool a2), .v (.int .i64 a3)]
theorem okUndo_pure {B : Nat} {r : List Cell} (h : okUndo B r) : ∀ K, cells1 K r := by
  obtain ⟨a0, a1, a2, a3, rfl⟩ := h
  intro K
  simp only [cells1_cons, cells1_nil, Clean_ownR, and_true]
  exact ⟨Clean.v, Clean.v, Clean.v, Clean.v⟩
theorem okUndo_le {B B2 : Nat} {r : List Cell} (h : okUndo B r) (hc : cntR r ≤ B2) : okUndo B2 r := by
  obtain ⟨a0, a1, a2, a3, rfl⟩ := h
  simp only [cntR_cons, cntC_own, cntC_v, cntR_nil] at hc
  exact ⟨a0, a1, a2, a3, rfl⟩
theorem okUndo_cnt {B : Nat} {r : List Cell} (h : okUndo B r) : cntR r = 0 := by obtain ⟨a0, a1, a2, a3, rfl⟩ := h; simp [cntR_cons, cntC_v, cntR_nil]
theorem laws_eqUndo (H : HH) {row cs cs' : List Cell} (ok : okUndo 1048576 row) (hr : Refs H row cs) (hr' : Refs H row cs') : PFun Tryz.prog 204 [.a cs, .a cs'] H (B true) := by
  obtain ⟨a0, a1, a2, a3, rfl⟩ := ok
  simp only [Refs_v, Refs_own, Refs_nil] at hr hr'
  obtain ⟨_, rfl, _, rfl, _, rfl, _, rfl, rfl⟩ := hr
  obtain ⟨_, rfl, _, rfl, _, rfl, _, rfl, rfl⟩ := hr'
  refine PFun.of [2, 3, 4, 9, 14, 19, 24] Tryz.func204 rfl (by simp [Tryz.f204]) ?_
  intro d hd0 hfr hcl hout
  have hcd : ∀ n q, CleanH (hit [((d, n), q)]) H := fun n q => hcl.at
  simp (maxSteps := 4000000) [hd0, hfr, hout, hcl, hcd, delA_none, Tryz.f204]

theorem laws_eqUndoS (H : HH) {r q r2 q2} {rows : List (List Cell)} (hb : rows.length ≤ 1048576) (ok : ∀ x ∈ rows, okUndo 1048576 x) (ha : arrAt H r q = some (4, rows)) (hb2 : arrAt H r2 q2 = some (4, rows)) : PFun Tryz.prog 176 [.c (.sl r q 4 0 rows.length), .c (.sl r2 q2 4 0 rows.length)] H (B true) := by
  refine PFun.of [0, 1, 4, 5, 10, 14, 26] Tryz.func176 rfl (by simp [Tryz.f176]) ?_
  intro d hd0 hfr hcl hout
  have hcd : ∀ n q, CleanH (hit [((d, n), q)]) H := fun n q => hcl.at
  have ha_n : ∀ n, ¬ (d, n) = r := fun n => nm_ne (ne_of_arr hfr ha)
  have ha_d : ¬ r.1 = d := ne_of_arr hfr ha
  have ha_m : ∀ n, ¬ r = (d, n) := fun n => nm_ne' (ne_of_arr hfr ha)
  have hb2_n : ∀ n, ¬ (d, n) = r2 := fun n => nm_ne (ne_of_arr hfr hb2)
  have hb2_d : ¬ r2.1 = d := ne_of_arr hfr hb2
  have hb2_m : ∀ n, ¬ r2 = (d, n) := fun n => nm_ne' (ne_of_arr hfr hb2)
  simp (maxSteps := 4000000) [hd0, hfr, hout, hcl, hcd, delA_none, ha, ha_n, ha_d, ha_m, hb2, hb2_n, hb2_d, hb2_m, Tryz.f176]
  refine LoopK.intro (fun m s => ∃ i : Nat, i + m = rows.length ∧ s = ⟨[(0, .c (.sl r q 4 0 rows.length)), (1, .c (.sl r2 q2 4 0 rows.length)), (5, I i)], H, []⟩) (rows.length + 1)
    (LK.intro rows.length [0, 1, 5] [] (by omega) (by decide) (by simp (maxSteps := 4000000) [hd0, hfr, hout, hcl, hcd, delA_none, ha, ha_n, ha_d, ha_m, hb2, hb2_n, hb2_d, hb2_m]) ⟨0, by simp⟩) ?_
  rintro m s ⟨i, him, rfl⟩
  simp (maxSteps := 4000000) [hd0, hfr, hout, hcl, hcd, delA_none, ha, ha_n, ha_d, ha_m, hb2, hb2_n, hb2_d, hb2_m]
  intro hi
  have hi' : i < rows.length := by omega
  have w1 : IntKind.i64.wrap ((i : Int) + 1) = i + 1 := w64 (by omega) (by omega)
  have hok := ok _ (List.getElem_mem hi')
  obtain ⟨a0, a1, a2, a3, hx⟩ := hok
  refine DrawK.intro 10 [0, 1, 5, 26] rfl (by kernel_rfl) (by decide) ?_
  simp (maxSteps := 4000000) [hd0, hfr, hout, hcl, hcd, delA_none, ha, ha_n, ha_d, ha_m, hb2, hb2_n, hb2_d, hb2_m, hi', hx]
  refine ⟨_, laws_eqUndo _ (row := [.v (.int .i64 a0), .v (.bool a1), .v (.bool a2), .v (.int .i64 a3)]) ⟨a0, a1, a2, a3, rfl⟩ (Refs_v.2 ⟨_, rfl, Refs_v.2 ⟨_, rfl, Refs_v.2 ⟨_, rfl, Refs_v.2 ⟨_, rfl, Refs_nil.2 rfl⟩⟩⟩⟩) (Refs_v.2 ⟨_, rfl, Refs_v.2 ⟨_, rfl, Refs_v.2 ⟨_, rfl, Refs_v.2 ⟨_, rfl, Refs_nil.2 rfl⟩⟩⟩⟩), ?_⟩
  simp (maxSteps := 4000000) [hd0, hfr, hout, hcl, hcd, delA_none, ha, ha_n, ha_d, ha_m, hb2, hb2_n, hb2_d, hb2_m, w1]
  exact LK.intro (m - 1) [0, 1, 5] [] (by omega) (by decide) (by simp (maxSteps := 4000000) [hd0, hfr, hout, hcl, hcd, delA_none, ha, ha_n, ha_d, ha_m, hb2, hb2_n, hb2_d, hb2_m]) ⟨i + 1, by omega, by simp⟩

def okTxn (B : Nat) (r : List Cell) : Prop := ∃ a0 a1 a2 a3 c4, r = [.v (.int .i64 a0), .v (.int .i64 a1), .v (.int .i64 a2), .v (.int .i64 a3), .own 4 c4] ∧ c4.length ≤ B ∧ (∀ x ∈ c4, okUndo B x)
theorem okTxn_pure {B : Nat} {r : List Cell} (h : okTxn B r) : ∀ K, cells1 K r := by
  obtain ⟨a0, a1, a2, a3, c4, rfl, lc4, oc4⟩ := h
  intro K
  simp only [cells1_cons, cells1_nil, Clean_ownR, and_true]
  exact ⟨Clean.v, Clean.v, Clean.v, Clean.v, (fun x hx => okUndo_pure (oc4 x hx) K)⟩
theorem okTxn_le {B B2 : Nat} {r : List Cell} (h : okTxn B r) (hc : cntR r ≤ B2) : okTxn B2 r := by
  obtain ⟨a0, a1, a2, a3, c4, rfl, lc4, oc4⟩ := h
  simp only [cntR_cons, cntC_own, cntC_v, cntR_nil] at hc
  exact ⟨a0, a1, a2, a3, c4, rfl, (by omega), (fun x hx => okUndo_le (oc4 x hx) (by have := cntR_mem hx; omega))⟩
theorem laws_eqTxn (H : HH) {row cs cs' : List Cell} (ok : okTxn 1048576 row) (hr : Refs H row cs) (hr' : Refs H row cs') : PFun Tryz.prog 129 [.a cs, .a cs'] H (B true) := by
  obtain ⟨a0, a1, a2, a3, c4, rfl, lc4, oc4⟩ := ok
  simp only [Refs_v, Refs_own, Refs_nil] at hr hr'
  obtain ⟨_, rfl, _, rfl, _, rfl, _, rfl, rc4, qc4, _, rfl, hc4, rfl⟩ := hr
  obtain ⟨_, rfl, _, rfl, _, rfl, _, rfl, rc4b, qc4b, _, rfl, hc4b, rfl⟩ := hr'
  refine PFun.of [2, 3, 4, 9, 14, 19, 24, 30] Tryz.func129 rfl (by simp [Tryz.f129]) ?_
  intro d hd0 hfr hcl hout
  have hcd : ∀ n q, CleanH (hit [((d, n), q)]) H := fun n q => hcl.at
  have hc4_n : ∀ n, ¬ (d, n) = rc4 := fun n => nm_ne (ne_of_arr hfr hc4)
  have hc4_d : ¬ rc4.1 = d := ne_of_arr hfr hc4
  have hc4_m : ∀ n, ¬ rc4 = (d, n) := fun n => nm_ne' (ne_of_arr hfr hc4)
  have hc4b_n : ∀ n, ¬ (d, n) = rc4b := fun n => nm_ne (ne_of_arr hfr hc4b)
  have hc4b_d : ¬ rc4b.1 = d := ne_of_arr hfr hc4b
  have hc4b_m : ∀ n, ¬ rc4b = (d, n) := fun n => nm_ne' (ne_of_arr hfr hc4b)
  simp (maxSteps := 4000000) [hd0, hfr, hout, hcl, hcd, delA_none, hc4, hc4_n, hc4_d, hc4_m, hc4b, hc4b_n, hc4b_d, hc4b_m, Tryz.f129]
  refine (laws_eqUndoS _ lc4 oc4 (by simp (maxSteps := 4000000) [hd0, hfr, hout, hcl, hcd, delA_none, hc4, hc4_n, hc4_d, hc4_m, hc4b, hc4b_n, hc4b_d, hc4b_m]) (by simp (maxSteps := 4000000) [hd0, hfr, hout, hcl, hcd, delA_none, hc4, hc4_n, hc4_d, hc4_m, hc4b, hc4b_n, hc4b_d, hc4b_m])).useCK ?_
  simp (maxSteps := 4000000) [hd0, hfr, hout, hcl, hcd, delA_none, hc4, hc4_n, hc4_d, hc4_m, hc4b, hc4b_n, hc4b_d, hc4b_m]

theorem laws_eqTxnS (H : HH) {r q r2 q2} {rows : List (List Cell)} (hb : rows.length ≤ 1048576) (ok : ∀ x ∈ rows, okTxn 1048576 x) (ha : arrAt H r q = some (5, rows)) (hb2 : arrAt H r2 q2 = some (5, rows)) : PFun Tryz.prog 62 [.c (.sl r q 5 0 rows.length), .c (.sl r2 q2 5 0 rows.length)] H (B true) := by
  refine PFun.of [0, 1, 4, 5, 10, 14, 26] Tryz.func62 rfl (by simp [Tryz.f62]) ?_
  intro d hd0 hfr hcl hout
  have hcd : ∀ n q, CleanH (hit [((d, n), q)]) H := fun n q => hcl.at
  have ha_n : ∀ n, ¬ (d, n) = r := fun n => nm_ne (ne_of_arr hfr ha)
  have ha_d : ¬ r.1 = d := ne_of_arr hfr ha
  have ha_m : ∀ n, ¬ r = (d, n) := fun n => nm_ne' (ne_of_arr hfr ha)
  have hb2_n : ∀ n, ¬ (d, n) = r2 := fun n => nm_ne (ne_of_arr hfr hb2)
  have hb2_d : ¬ r2.1 = d := ne_of_arr hfr hb2
  have hb2_m : ∀ n, ¬ r2 = (d, n) := fun n => nm_ne' (ne_of_arr hfr hb2)
  simp (maxSteps := 4000000) [hd0, hfr, hout, hcl, hcd, delA_none, ha, ha_n, ha_d, ha_m, hb2, hb2_n, hb2_d, hb2_m, Tryz.f62]
  refine LoopK.intro (fun m s => ∃ i : Nat, i + m = rows.length ∧ s = ⟨[(0, .c (.sl r q 5 0 rows.length)), (1, .c (.sl r2 q2 5 0 rows.length)), (5, I i)], H, []⟩) (rows.length + 1)
    (LK.intro rows.length [0, 1, 5] [] (by omega) (by decide) (by simp (maxSteps := 4000000) [hd0, hfr, hout, hcl, hcd, delA_none, ha, ha_n, ha_d, ha_m, hb2, hb2_n, hb2_d, hb2_m]) ⟨0, by simp⟩) ?_
  rintro m s ⟨i, him, rfl⟩
  simp (maxSteps := 4000000) [hd0, hfr, hout, hcl, hcd, delA_none, ha, ha_n, ha_d, ha_m, hb2, hb2_n, hb2_d, hb2_m]
  intro hi
  have hi' : i < rows.length := by omega
  have w1 : IntKind.i64.wrap ((i : Int) + 1) = i + 1 := w64 (by omega) (by omega)
  have hok := ok _ (List.getElem_mem hi')
  obtain ⟨a0, a1, a2, a3, c4, hx, lc4, oc4⟩ := hok
  refine DrawK.intro 10 [0, 1, 5, 26] rfl (by kernel_rfl) (by decide) ?_
  have s1c4 := arrAt_sub ha (List.getElem?_eq_getElem hi') (f := 4) (by rw [hx]; rfl)
  have s2c4 := arrAt_sub hb2 (List.getElem?_eq_getElem hi') (f := 4) (by rw [hx]; rfl)
  simp (maxSteps := 4000000) [hd0, hfr, hout, hcl, hcd, delA_none, ha, ha_n, ha_d, ha_m, hb2, hb2_n, hb2_d, hb2_m, hi', hx]
  refine ⟨_, laws_eqTxn _ (row := [.v (.int .i64 a0), .v (.int .i64 a1), .v (.int .i64 a2), .v (.int .i64 a3), .own 4 c4]) ⟨a0, a1, a2, a3, c4, rfl, lc4, oc4⟩ (Refs_v.2 ⟨_, rfl, Refs_v.2 ⟨_, rfl, Refs_v.2 ⟨_, rfl, Refs_v.2 ⟨_, rfl, Refs_own.2 ⟨_, _, _, rfl, by simp (maxSteps := 4000000) [hd0, hfr, hout, hcl, hcd, delA_none, ha, ha_n, ha_d, ha_m, hb2, hb2_n, hb2_d, hb2_m, s1c4], Refs_nil.2 rfl⟩⟩⟩⟩⟩) (Refs_v.2 ⟨_, rfl, Refs_v.2 ⟨_, rfl, Refs_v.2 ⟨_, rfl, Refs_v.2 ⟨_, rfl, Refs_own.2 ⟨_, _, _, rfl, by simp (maxSteps := 4000000) [hd0, hfr, hout, hcl, hcd, delA_none, ha, ha_n, ha_d, ha_m, hb2, hb2_n, hb2_d, hb2_m, s2c4], Refs_nil.2 rfl⟩⟩⟩⟩⟩), ?_⟩
  simp (maxSteps := 4000000) [hd0, hfr, hout, hcl, hcd, delA_none, ha, ha_n, ha_d, ha_m, hb2, hb2_n, hb2_d, hb2_m, w1]
  exact LK.intro (m - 1) [0, 1, 5] [] (by omega) (by decide) (by simp (maxSteps := 4000000) [hd0, hfr, hout, hcl, hcd, delA_none, ha, ha_n, ha_d, ha_m, hb2, hb2_n, hb2_d, hb2_m]) ⟨i + 1, by omega, by simp⟩

def okVersion (B : Nat) (r : List Cell) : Prop := ∃ a0 a1 a2 a3, r = [.v (.int .i64 a0), .v (.int .i64 a1), .v (.bool a2), .v (.int .i64 a3)]
theorem okVersion_pure {B : Nat} {r : List Cell} (h : okVersion B r) : ∀ K, cells1 K r := by
  obtain ⟨a0, a1, a2, a3, rfl⟩ := h
  intro K
  simp only [cells1_cons, cells1_nil, Clean_ownR, and_true]
  exact ⟨Clean.v, Clean.v, Clean.v, Clean.v⟩
theorem okVersion_le {B B2 : Nat} {r : List Cell} (h : okVersion B r) (hc : cntR r ≤ B2) : okVersion B2 r := by
  obtain ⟨a0, a1, a2, a3, rfl⟩ := h
  simp only [cntR_cons, cntC_own, cntC_v, cntR_nil] at hc
  exact ⟨a0, a1, a2, a3, rfl⟩
theorem okVersion_cnt {B : Nat} {r : List Cell} (h : okVersion B r) : cntR r = 0 := by obtain ⟨a0, a1, a2, a3, rfl⟩ := h; simp [cntR_cons, cntC_v, cntR_nil]
theorem laws_eqVersion (H : HH) {row cs cs' : List Cell} (ok : okVersion 1048576 row) (hr : Refs H row cs) (hr' : Refs H row cs') : PFun Tryz.prog 205 [.a cs, .a cs'] H (B true) := by
  obtain ⟨a0, a1, a2, a3, rfl⟩ := ok
  simp only [Refs_v, Refs_own, Refs_nil] at hr hr'
  obtain ⟨_, rfl, _, rfl, _, rfl, _, rfl, rfl⟩ := hr
  obtain ⟨_, rfl, _, rfl, _, rfl, _, rfl, rfl⟩ := hr'
  refine PFun.of [2, 3, 4, 9, 14, 19, 24] Tryz.func205 rfl (by simp [Tryz.f205]) ?_
  intro d hd0 hfr hcl hout
  have hcd : ∀ n q, CleanH (hit [((d, n), q)]) H := fun n q => hcl.at
  simp (maxSteps := 4000000) [hd0, hfr, hout, hcl, hcd, delA_none, Tryz.f205]

theorem laws_eqVersionS (H : HH) {r q r2 q2} {rows : List (List Cell)} (hb : rows.length ≤ 1048576) (ok : ∀ x ∈ rows, okVersion 1048576 x) (ha : arrAt H r q = some (4, rows)) (hb2 : arrAt H r2 q2 = some (4, rows)) : PFun Tryz.prog 177 [.c (.sl r q 4 0 rows.length), .c (.sl r2 q2 4 0 rows.length)] H (B true) := by
  refine PFun.of [0, 1, 4, 5, 10, 14, 26] Tryz.func177 rfl (by simp [Tryz.f177]) ?_
  intro d hd0 hfr hcl hout
  have hcd : ∀ n q, CleanH (hit [((d, n), q)]) H := fun n q => hcl.at
  have ha_n : ∀ n, ¬ (d, n) = r := fun n => nm_ne (ne_of_arr hfr ha)
  have ha_d : ¬ r.1 = d := ne_of_arr hfr ha
  have ha_m : ∀ n, ¬ r = (d, n) := fun n => nm_ne' (ne_of_arr hfr ha)
  have hb2_n : ∀ n, ¬ (d, n) = r2 := fun n => nm_ne (ne_of_arr hfr hb2)
  have hb2_d : ¬ r2.1 = d := ne_of_arr hfr hb2
  have hb2_m : ∀ n, ¬ r2 = (d, n) := fun n => nm_ne' (ne_of_arr hfr hb2)
  simp (maxSteps := 4000000) [hd0, hfr, hout, hcl, hcd, delA_none, ha, ha_n, ha_d, ha_m, hb2, hb2_n, hb2_d, hb2_m, Tryz.f177]
  refine LoopK.intro (fun m s => ∃ i : Nat, i + m = rows.length ∧ s = ⟨[(0, .c (.sl r q 4 0 rows.length)), (1, .c (.sl r2 q2 4 0 rows.length)), (5, I i)], H, []⟩) (rows.length + 1)
    (LK.intro rows.length [0, 1, 5] [] (by omega) (by decide) (by simp (maxSteps := 4000000) [hd0, hfr, hout, hcl, hcd, delA_none, ha, ha_n, ha_d, ha_m, hb2, hb2_n, hb2_d, hb2_m]) ⟨0, by simp⟩) ?_
  rintro m s ⟨i, him, rfl⟩
  simp (maxSteps := 4000000) [hd0, hfr, hout, hcl, hcd, delA_none, ha, ha_n, ha_d, ha_m, hb2, hb2_n, hb2_d, hb2_m]
  intro hi
  have hi' : i < rows.length := by omega
  have w1 : IntKind.i64.wrap ((i : Int) + 1) = i + 1 := w64 (by omega) (by omega)
  have hok := ok _ (List.getElem_mem hi')
  obtain ⟨a0, a1, a2, a3, hx⟩ := hok
  refine DrawK.intro 10 [0, 1, 5, 26] rfl (by kernel_rfl) (by decide) ?_
  simp (maxSteps := 4000000) [hd0, hfr, hout, hcl, hcd, delA_none, ha, ha_n, ha_d, ha_m, hb2, hb2_n, hb2_d, hb2_m, hi', hx]
  refine ⟨_, laws_eqVersion _ (row := [.v (.int .i64 a0), .v (.int .i64 a1), .v (.bool a2), .v (.int .i64 a3)]) ⟨a0, a1, a2, a3, rfl⟩ (Refs_v.2 ⟨_, rfl, Refs_v.2 ⟨_, rfl, Refs_v.2 ⟨_, rfl, Refs_v.2 ⟨_, rfl, Refs_nil.2 rfl⟩⟩⟩⟩) (Refs_v.2 ⟨_, rfl, Refs_v.2 ⟨_, rfl, Refs_v.2 ⟨_, rfl, Refs_v.2 ⟨_, rfl, Refs_nil.2 rfl⟩⟩⟩⟩), ?_⟩
  simp (maxSteps := 4000000) [hd0, hfr, hout, hcl, hcd, delA_none, ha, ha_n, ha_d, ha_m, hb2, hb2_n, hb2_d, hb2_m, w1]
  exact LK.intro (m - 1) [0, 1, 5] [] (by omega) (by decide) (by simp (maxSteps := 4000000) [hd0, hfr, hout, hcl, hcd, delA_none, ha, ha_n, ha_d, ha_m, hb2, hb2_n, hb2_d, hb2_m]) ⟨i + 1, by omega, by simp⟩

def okRow (B : Nat) (r : List Cell) : Prop := ∃ a0 c1, r = [.v (.int .i64 a0), .own 4 c1] ∧ c1.length ≤ B ∧ (∀ x ∈ c1, okVersion B x)
theorem okRow_pure {B : Nat} {r : List Cell} (h : okRow B r) : ∀ K, cells1 K r := by
  obtain ⟨a0, c1, rfl, lc1, oc1⟩ := h
  intro K
  simp only [cells1_cons, cells1_nil, Clean_ownR, and_true]
  exact ⟨Clean.v, (fun x hx => okVersion_pure (oc1 x hx) K)⟩
theorem okRow_le {B B2 : Nat} {r : List Cell} (h : okRow B r) (hc : cntR r ≤ B2) : okRow B2 r := by
  obtain ⟨a0, c1, rfl, lc1, oc1⟩ := h
  simp only [cntR_cons, cntC_own, cntC_v, cntR_nil] at hc
  exact ⟨a0, c1, rfl, (by omega), (fun x hx => okVersion_le (oc1 x hx) (by have := cntR_mem hx; omega))⟩
theorem laws_eqRow (H : HH) {row cs cs' : List Cell} (ok : okRow 1048576 row) (hr : Refs H row cs) (hr' : Refs H row cs') : PFun Tryz.prog 130 [.a cs, .a cs'] H (B true) := by
  obtain ⟨a0, c1, rfl, lc1, oc1⟩ := ok
  simp only [Refs_v, Refs_own, Refs_nil] at hr hr'
  obtain ⟨_, rfl, rc1, qc1, _, rfl, hc1, rfl⟩ := hr
  obtain ⟨_, rfl, rc1b, qc1b, _, rfl, hc1b, rfl⟩ := hr'
  refine PFun.of [2, 3, 4, 9, 15] Tryz.func130 rfl (by simp [Tryz.f130]) ?_
  intro d hd0 hfr hcl hout
  have hcd : ∀ n q, CleanH (hit [((d, n), q)]) H := fun n q => hcl.at
  have hc1_n : ∀ n, ¬ (d, n) = rc1 := fun n => nm_ne (ne_of_arr hfr hc1)
  have hc1_d : ¬ rc1.1 = d := ne_of_arr hfr hc1
  have hc1_m : ∀ n, ¬ rc1 = (d, n) := fun n => nm_ne' (ne_of_arr hfr hc1)
  have hc1b_n : ∀ n, ¬ (d, n) = rc1b := fun n => nm_ne (ne_of_arr hfr hc1b)
  have hc1b_d : ¬ rc1b.1 = d := ne_of_arr hfr hc1b
  have hc1b_m : ∀ n, ¬ rc1b = (d, n) := fun n => nm_ne' (ne_of_arr hfr hc1b)
  simp (maxSteps := 4000000) [hd0, hfr, hout, hcl, hcd, delA_none, hc1, hc1_n, hc1_d, hc1_m, hc1b, hc1b_n, hc1b_d, hc1b_m, Tryz.f130]
  refine (laws_eqVersionS _ lc1 oc1 (by simp (maxSteps := 4000000) [hd0, hfr, hout, hcl, hcd, delA_none, hc1, hc1_n, hc1_d, hc1_m, hc1b, hc1b_n, hc1b_d, hc1b_m]) (by simp (maxSteps := 4000000) [hd0, hfr, hout, hcl, hcd, delA_none, hc1, hc1_n, hc1_d, hc1_m, hc1b, hc1b_n, hc1b_d, hc1b_m])).useCK ?_
  simp (maxSteps := 4000000) [hd0, hfr, hout, hcl, hcd, delA_none, hc1, hc1_n, hc1_d, hc1_m, hc1b, hc1b_n, hc1b_d, hc1b_m]

theorem laws_eqRowS (H : HH) {r q r2 q2} {rows : List (List Cell)} (hb : rows.length ≤ 1048576) (ok : ∀ x ∈ rows, okRow 1048576 x) (ha : arrAt H r q = some (2, rows)) (hb2 : arrAt H r2 q2 = some (2, rows)) : PFun Tryz.prog 63 [.c (.sl r q 2 0 rows.length), .c (.sl r2 q2 2 0 rows.length)] H (B true) := by
  refine PFun.of [0, 1, 4, 5, 10, 14, 26] Tryz.func63 rfl (by simp [Tryz.f63]) ?_
  intro d hd0 hfr hcl hout
  have hcd : ∀ n q, CleanH (hit [((d, n), q)]) H := fun n q => hcl.at
  have ha_n : ∀ n, ¬ (d, n) = r := fun n => nm_ne (ne_of_arr hfr ha)
  have ha_d : ¬ r.1 = d := ne_of_arr hfr ha
  have ha_m : ∀ n, ¬ r = (d, n) := fun n => nm_ne' (ne_of_arr hfr ha)
  have hb2_n : ∀ n, ¬ (d, n) = r2 := fun n => nm_ne (ne_of_arr hfr hb2)
  have hb2_d : ¬ r2.1 = d := ne_of_arr hfr hb2
  have hb2_m : ∀ n, ¬ r2 = (d, n) := fun n => nm_ne' (ne_of_arr hfr hb2)
  simp (maxSteps := 4000000) [hd0, hfr, hout, hcl, hcd, delA_none, ha, ha_n, ha_d, ha_m, hb2, hb2_n, hb2_d, hb2_m, Tryz.f63]
  refine LoopK.intro (fun m s => ∃ i : Nat, i + m = rows.length ∧ s = ⟨[(0, .c (.sl r q 2 0 rows.length)), (1, .c (.sl r2 q2 2 0 rows.length)), (5, I i)], H, []⟩) (rows.length + 1)
    (LK.intro rows.length [0, 1, 5] [] (by omega) (by decide) (by simp (maxSteps := 4000000) [hd0, hfr, hout, hcl, hcd, delA_none, ha, ha_n, ha_d, ha_m, hb2, hb2_n, hb2_d, hb2_m]) ⟨0, by simp⟩) ?_
  rintro m s ⟨i, him, rfl⟩
  simp (maxSteps := 4000000) [hd0, hfr, hout, hcl, hcd, delA_none, ha, ha_n, ha_d, ha_m, hb2, hb2_n, hb2_d, hb2_m]
  intro hi
  have hi' : i < rows.length := by omega
  have w1 : IntKind.i64.wrap ((i : Int) + 1) = i + 1 := w64 (by omega) (by omega)
  have hok := ok _ (List.getElem_mem hi')
  obtain ⟨a0, c1, hx, lc1, oc1⟩ := hok
  refine DrawK.intro 10 [0, 1, 5, 26] rfl (by kernel_rfl) (by decide) ?_
  have s1c1 := arrAt_sub ha (List.getElem?_eq_getElem hi') (f := 1) (by rw [hx]; rfl)
  have s2c1 := arrAt_sub hb2 (List.getElem?_eq_getElem hi') (f := 1) (by rw [hx]; rfl)
  simp (maxSteps := 4000000) [hd0, hfr, hout, hcl, hcd, delA_none, ha, ha_n, ha_d, ha_m, hb2, hb2_n, hb2_d, hb2_m, hi', hx]
  refine ⟨_, laws_eqRow _ (row := [.v (.int .i64 a0), .own 4 c1]) ⟨a0, c1, rfl, lc1, oc1⟩ (Refs_v.2 ⟨_, rfl, Refs_own.2 ⟨_, _, _, rfl, by simp (maxSteps := 4000000) [hd0, hfr, hout, hcl, hcd, delA_none, ha, ha_n, ha_d, ha_m, hb2, hb2_n, hb2_d, hb2_m, s1c1], Refs_nil.2 rfl⟩⟩) (Refs_v.2 ⟨_, rfl, Refs_own.2 ⟨_, _, _, rfl, by simp (maxSteps := 4000000) [hd0, hfr, hout, hcl, hcd, delA_none, ha, ha_n, ha_d, ha_m, hb2, hb2_n, hb2_d, hb2_m, s2c1], Refs_nil.2 rfl⟩⟩), ?_⟩
  simp (maxSteps := 4000000) [hd0, hfr, hout, hcl, hcd, delA_none, ha, ha_n, ha_d, ha_m, hb2, hb2_n, hb2_d, hb2_m, w1]
  exact LK.intro (m - 1) [0, 1, 5] [] (by omega) (by decide) (by simp (maxSteps := 4000000) [hd0, hfr, hout, hcl, hcd, delA_none, ha, ha_n, ha_d, ha_m, hb2, hb2_n, hb2_d, hb2_m]) ⟨i + 1, by omega, by simp⟩

def okEngine (B : Nat) (r : List Cell) : Prop := ∃ a0 a1 c2 c3, r = [.v (.int .i64 a0), .v (.int .i64 a1), .own 5 c2, .own 2 c3] ∧ c2.length ≤ B ∧ (∀ x ∈ c2, okTxn B x) ∧ c3.length ≤ B ∧ (∀ x ∈ c3, okRow B x)
theorem okEngine_le {B B2 : Nat} {r : List Cell} (h : okEngine B r) (hc : cntR r ≤ B2) : okEngine B2 r := by
  obtain ⟨a0, a1, c2, c3, rfl, lc2, oc2, lc3, oc3⟩ := h
  simp only [cntR_cons, cntC_own, cntC_v, cntR_nil] at hc
  exact ⟨a0, a1, c2, c3, rfl, (by omega), (fun x hx => okTxn_le (oc2 x hx) (by have := cntR_mem hx; omega)), (by omega), (fun x hx => okRow_le (oc3 x hx) (by have := cntR_mem hx; omega))⟩
theorem laws_eqEngine (H : HH) {row cs cs' : List Cell} (ok : okEngine 1048576 row) (hr : Refs H row cs) (hr' : Refs H row cs') : PFun Tryz.prog 17 [.a cs, .a cs'] H (B true) := by
  obtain ⟨a0, a1, c2, c3, rfl, lc2, oc2, lc3, oc3⟩ := ok
  simp only [Refs_v, Refs_own, Refs_nil] at hr hr'
  obtain ⟨_, rfl, _, rfl, rc2, qc2, _, rfl, hc2, rc3, qc3, _, rfl, hc3, rfl⟩ := hr
  obtain ⟨_, rfl, _, rfl, rc2b, qc2b, _, rfl, hc2b, rc3b, qc3b, _, rfl, hc3b, rfl⟩ := hr'
  refine PFun.of [2, 3, 4, 9, 14, 20, 26] Tryz.func17 rfl (by simp [Tryz.f17]) ?_
  intro d hd0 hfr hcl hout
  have hcd : ∀ n q, CleanH (hit [((d, n), q)]) H := fun n q => hcl.at
  have hc2_n : ∀ n, ¬ (d, n) = rc2 := fun n => nm_ne (ne_of_arr hfr hc2)
  have hc2_d : ¬ rc2.1 = d := ne_of_arr hfr hc2
  have hc2_m : ∀ n, ¬ rc2 = (d, n) := fun n => nm_ne' (ne_of_arr hfr hc2)
  have hc3_n : ∀ n, ¬ (d, n) = rc3 := fun n => nm_ne (ne_of_arr hfr hc3)
  have hc3_d : ¬ rc3.1 = d := ne_of_arr hfr hc3
  have hc3_m : ∀ n, ¬ rc3 = (d, n) := fun n => nm_ne' (ne_of_arr hfr hc3)
  have hc2b_n : ∀ n, ¬ (d, n) = rc2b := fun n => nm_ne (ne_of_arr hfr hc2b)
  have hc2b_d : ¬ rc2b.1 = d := ne_of_arr hfr hc2b
  have hc2b_m : ∀ n, ¬ rc2b = (d, n) := fun n => nm_ne' (ne_of_arr hfr hc2b)
  have hc3b_n : ∀ n, ¬ (d, n) = rc3b := fun n => nm_ne (ne_of_arr hfr hc3b)
  have hc3b_d : ¬ rc3b.1 = d := ne_of_arr hfr hc3b
  have hc3b_m : ∀ n, ¬ rc3b = (d, n) := fun n => nm_ne' (ne_of_arr hfr hc3b)
  simp (maxSteps := 4000000) [hd0, hfr, hout, hcl, hcd, delA_none, hc2, hc2_n, hc2_d, hc2_m, hc3, hc3_n, hc3_d, hc3_m, hc2b, hc2b_n, hc2b_d, hc2b_m, hc3b, hc3b_n, hc3b_d, hc3b_m, Tryz.f17]
  refine (laws_eqTxnS _ lc2 oc2 (by simp (maxSteps := 4000000) [hd0, hfr, hout, hcl, hcd, delA_none, hc2, hc2_n, hc2_d, hc2_m, hc3, hc3_n, hc3_d, hc3_m, hc2b, hc2b_n, hc2b_d, hc2b_m, hc3b, hc3b_n, hc3b_d, hc3b_m]) (by simp (maxSteps := 4000000) [hd0, hfr, hout, hcl, hcd, delA_none, hc2, hc2_n, hc2_d, hc2_m, hc3, hc3_n, hc3_d, hc3_m, hc2b, hc2b_n, hc2b_d, hc2b_m, hc3b, hc3b_n, hc3b_d, hc3b_m])).useCK ?_
  simp (maxSteps := 4000000) [hd0, hfr, hout, hcl, hcd, delA_none, hc2, hc2_n, hc2_d, hc2_m, hc3, hc3_n, hc3_d, hc3_m, hc2b, hc2b_n, hc2b_d, hc2b_m, hc3b, hc3b_n, hc3b_d, hc3b_m]
  refine (laws_eqRowS _ lc3 oc3 (by simp (maxSteps := 4000000) [hd0, hfr, hout, hcl, hcd, delA_none, hc2, hc2_n, hc2_d, hc2_m, hc3, hc3_n, hc3_d, hc3_m, hc2b, hc2b_n, hc2b_d, hc2b_m, hc3b, hc3b_n, hc3b_d, hc3b_m]) (by simp (maxSteps := 4000000) [hd0, hfr, hout, hcl, hcd, delA_none, hc2, hc2_n, hc2_d, hc2_m, hc3, hc3_n, hc3_d, hc3_m, hc2b, hc2b_n, hc2b_d, hc2b_m, hc3b, hc3b_n, hc3b_d, hc3b_m])).useCK ?_
  simp (maxSteps := 4000000) [hd0, hfr, hout, hcl, hcd, delA_none, hc2, hc2_n, hc2_d, hc2_m, hc3, hc3_n, hc3_d, hc3_m, hc2b, hc2b_n, hc2b_d, hc2b_m, hc3b, hc3b_n, hc3b_d, hc3b_m]

def okEngineResult (B : Nat) (r : List Cell) : Prop := ∃ a0 a1 a2 a3 c4 c5, r = [.v (.int .i64 a0), .v (.int .i64 a1), .v (.int .i64 a2), .v (.int .i64 a3), .own 5 c4, .own 2 c5] ∧ c4.length ≤ B ∧ (∀ x ∈ c4, okTxn B x) ∧ c5.length ≤ B ∧ (∀ x ∈ c5, okRow B x)
theorem laws_eqEngineResult (H : HH) {row cs cs' : List Cell} (ok : okEngineResult 1048576 row) (hr : Refs H row cs) (hr' : Refs H row cs') : PFun Tryz.prog 16 [.a cs, .a cs'] H (B true) := by
  obtain ⟨a0, a1, a2, a3, c4, c5, rfl, lc4, oc4, lc5, oc5⟩ := ok
  simp only [Refs_v, Refs_own, Refs_nil] at hr hr'
  obtain ⟨_, rfl, _, rfl, _, rfl, _, rfl, rc4, qc4, _, rfl, hc4, rc5, qc5, _, rfl, hc5, rfl⟩ := hr
  obtain ⟨_, rfl, _, rfl, _, rfl, _, rfl, rc4b, qc4b, _, rfl, hc4b, rc5b, qc5b, _, rfl, hc5b, rfl⟩ := hr'
  refine PFun.of [2, 3, 4, 9, 14, 20] Tryz.func16 rfl (by simp [Tryz.f16]) ?_
  intro d hd0 hfr hcl hout
  have hcd : ∀ n q, CleanH (hit [((d, n), q)]) H := fun n q => hcl.at
  have hc4_n : ∀ n, ¬ (d, n) = rc4 := fun n => nm_ne (ne_of_arr hfr hc4)
  have hc4_d : ¬ rc4.1 = d := ne_of_arr hfr hc4
  have hc4_m : ∀ n, ¬ rc4 = (d, n) := fun n => nm_ne' (ne_of_arr hfr hc4)
  have hc5_n : ∀ n, ¬ (d, n) = rc5 := fun n => nm_ne (ne_of_arr hfr hc5)
  have hc5_d : ¬ rc5.1 = d := ne_of_arr hfr hc5
  have hc5_m : ∀ n, ¬ rc5 = (d, n) := fun n => nm_ne' (ne_of_arr hfr hc5)
  have hc4b_n : ∀ n, ¬ (d, n) = rc4b := fun n => nm_ne (ne_of_arr hfr hc4b)
  have hc4b_d : ¬ rc4b.1 = d := ne_of_arr hfr hc4b
  have hc4b_m : ∀ n, ¬ rc4b = (d, n) := fun n => nm_ne' (ne_of_arr hfr hc4b)
  have hc5b_n : ∀ n, ¬ (d, n) = rc5b := fun n => nm_ne (ne_of_arr hfr hc5b)
  have hc5b_d : ¬ rc5b.1 = d := ne_of_arr hfr hc5b
  have hc5b_m : ∀ n, ¬ rc5b = (d, n) := fun n => nm_ne' (ne_of_arr hfr hc5b)
  simp (maxSteps := 4000000) [hd0, hfr, hout, hcl, hcd, delA_none, hc4, hc4_n, hc4_d, hc4_m, hc5, hc5_n, hc5_d, hc5_m, hc4b, hc4b_n, hc4b_d, hc4b_m, hc5b, hc5b_n, hc5b_d, hc5b_m, Tryz.f16]
  refine (laws_eqEngine _ (row := [.v (.int .i64 a2), .v (.int .i64 a3), .own 5 c4, .own 2 c5]) ⟨a2, a3, c4, c5, rfl, lc4, oc4, lc5, oc5⟩ (Refs_v.2 ⟨_, rfl, Refs_v.2 ⟨_, rfl, Refs_own.2 ⟨_, _, _, rfl, by simp (maxSteps := 4000000) [hd0, hfr, hout, hcl, hcd, delA_none, hc4, hc4_n, hc4_d, hc4_m, hc5, hc5_n, hc5_d, hc5_m, hc4b, hc4b_n, hc4b_d, hc4b_m, hc5b, hc5b_n, hc5b_d, hc5b_m], Refs_own.2 ⟨_, _, _, rfl, by simp (maxSteps := 4000000) [hd0, hfr, hout, hcl, hcd, delA_none, hc4, hc4_n, hc4_d, hc4_m, hc5, hc5_n, hc5_d, hc5_m, hc4b, hc4b_n, hc4b_d, hc4b_m, hc5b, hc5b_n, hc5b_d, hc5b_m], Refs_nil.2 rfl⟩⟩⟩⟩) (Refs_v.2 ⟨_, rfl, Refs_v.2 ⟨_, rfl, Refs_own.2 ⟨_, _, _, rfl, by simp (maxSteps := 4000000) [hd0, hfr, hout, hcl, hcd, delA_none, hc4, hc4_n, hc4_d, hc4_m, hc5, hc5_n, hc5_d, hc5_m, hc4b, hc4b_n, hc4b_d, hc4b_m, hc5b, hc5b_n, hc5b_d, hc5b_m], Refs_own.2 ⟨_, _, _, rfl, by simp (maxSteps := 4000000) [hd0, hfr, hout, hcl, hcd, delA_none, hc4, hc4_n, hc4_d, hc4_m, hc5, hc5_n, hc5_d, hc5_m, hc4b, hc4b_n, hc4b_d, hc4b_m, hc5b, hc5b_n, hc5b_d, hc5b_m], Refs_nil.2 rfl⟩⟩⟩⟩)).useCK ?_
  simp (maxSteps := 4000000) [hd0, hfr, hout, hcl, hcd, delA_none, hc4, hc4_n, hc4_d, hc4_m, hc5, hc5_n, hc5_d, hc5_m, hc4b, hc4b_n, hc4b_d, hc4b_m, hc5b, hc5b_n, hc5b_d, hc5b_m]

def okIntsResult (B : Nat) (r : List Cell) : Prop := ∃ a0 c1, r = [.v (.int .i64 a0), .own 1 c1] ∧ c1.length ≤ B ∧ (∀ x ∈ c1, okI64 x)
def okPair (B : Nat) (r : List Cell) : Prop := ∃ a0 a1, r = [.v (.int .i64 a0), .v (.int .i64 a1)]
def okPairsResult (B : Nat) (r : List Cell) : Prop := ∃ a0 c1, r = [.v (.int .i64 a0), .own 2 c1] ∧ c1.length ≤ B ∧ (∀ x ∈ c1, okPair B x)
theorem okUndo_lvb {r : List Cell} (h : okUndo 1048576 r) : lvR r ≤ 4 := by
  obtain ⟨a0, a1, a2, a3, rfl⟩ := h
  simp only [lvR_cons, lvR_nil, lvC_own, lvC_v]
  omega
theorem laws_heldUndoS (H : HH) {r q} {rows : List (List Cell)} {k : Int} (hb : rows.length ≤ 1048576) (ok : ∀ x ∈ rows, okUndo 1048576 x) (hk : 0 ≤ k) (hk2 : k + lvRs rows ≤ 4611686018427387904) (ha : arrAt H r q = some (4, mkRs k rows)) : PFun Tryz.prog 178 [.c (.sl r q 4 0 rows.length), I k] H (I (k + lvRs rows)) := by
  refine PFun.of [0, 1, 4, 5, 9, 18, 29, 40, 49] Tryz.func178 rfl (by simp [Tryz.f178]) ?_
  intro d hd0 hfr hcl hout
  have hcd : ∀ n q, CleanH (hit [((d, n), q)]) H := fun n q => hcl.at
  have ha_n : ∀ n, ¬ (d, n) = r := fun n => nm_ne (ne_of_arr hfr ha)
  have ha_d : ¬ r.1 = d := ne_of_arr hfr ha
  have ha_m : ∀ n, ¬ r = (d, n) := fun n => nm_ne' (ne_of_arr hfr ha)
  simp (maxSteps := 4000000) [hd0, hfr, hout, hcl, hcd, delA_none, ha, ha_n, ha_d, ha_m, Tryz.f178]
  refine LoopK.intro (fun m s => ∃ i : Nat, i + m = rows.length ∧ s = ⟨[(0, .c (.sl r q 4 0 rows.length)), (1, I (k + lvRs (rows.take i))), (5, I i)], H, []⟩) (rows.length + 1)
    (LK.intro rows.length [0, 1, 5] [] (by omega) (by decide) (by simp (maxSteps := 4000000) [hd0, hfr, hout, hcl, hcd, delA_none, ha, ha_n, ha_d, ha_m]) ⟨0, by simp [lvRs]⟩) ?_
  rintro m s ⟨i, him, rfl⟩
  simp (maxSteps := 4000000) [hd0, hfr, hout, hcl, hcd, delA_none, ha, ha_n, ha_d, ha_m]
  constructor
  · intro hi
    have hi' : i < rows.length := by omega
    have w1 : IntKind.i64.wrap ((i : Int) + 1) = i + 1 := w64 (by omega) (by omega)
    have hok := ok _ (List.getElem_mem hi')
    have ht := lvRs_take hi'
    have hat := mkRs_get (k := k) hi'
    have hle := lvRs_le (rows := rows) (i := i + 1)
    obtain ⟨K, hK⟩ : ∃ K : Int, K = k + lvRs (rows.take i) := ⟨_, rfl⟩
    obtain ⟨a0, a1, a2, a3, hx⟩ := hok
    rw [← hK] at hat ⊢
    rw [hx] at ht hat
    simp only [mkR_cons, mkR_nil, mkC_v, mkC_own, mkV, lvC_v, lvC_own, Int.natCast_one] at hat
    simp only [lvR_cons, lvC_v, lvC_own, lvR_nil] at ht
    have hatx := ix_of hat
    have wk1 : IntKind.i64.wrap (K + 1) = K + 1 := w64 (by omega) (by omega)
    have wk2 : IntKind.i64.wrap (K + 1 + 1) = K + 1 + 1 := w64 (by omega) (by omega)
    have wk3 : IntKind.i64.wrap (K + 1 + 1 + 1) = K + 1 + 1 + 1 := w64 (by omega) (by omega)
    have wk4 : IntKind.i64.wrap (K + 1 + 1 + 1 + 1) = K + 1 + 1 + 1 + 1 := w64 (by omega) (by omega)
    try simp (maxSteps := 4000000) [hd0, hfr, hout, hcl, hcd, delA_none, ha, ha_n, ha_d, ha_m, hi', hatx, mkRs_length, w1, wk1, wk2, wk3, wk4]
    exact LK.intro (m - 1) [0, 1, 5] [] (by omega) (by decide) (by simp (maxSteps := 4000000) [hd0, hfr, hout, hcl, hcd, delA_none, ha, ha_n, ha_d, ha_m]) ⟨i + 1, by omega, by simp; omega⟩
  · intro h
    simp (maxSteps := 4000000) [hd0, hfr, hout, hcl, hcd, delA_none, ha, ha_n, ha_d, ha_m, lvRs_all h]

theorem okTxn_lvb {r : List Cell} (h : okTxn 1048576 r) : lvR r ≤ 4194308 := by
  obtain ⟨a0, a1, a2, a3, c4, rfl, lc4, oc4⟩ := h
  simp only [lvR_cons, lvR_nil, lvC_own, lvC_v]
  have kc4 := lvRs_bound (rows := c4) (n := 4) (fun x hx => okUndo_lvb (oc4 x hx))
  omega
theorem laws_heldTxnS (H : HH) {r q} {rows : List (List Cell)} {k : Int} (hb : rows.length ≤ 1048576) (ok : ∀ x ∈ rows, okTxn 1048576 x) (hk : 0 ≤ k) (hk2 : k + lvRs rows ≤ 4611686018427387904) (ha : arrAt H r q = some (5, mkRs k rows)) : PFun Tryz.prog 133 [.c (.sl r q 5 0 rows.length), I k] H (I (k + lvRs rows)) := by
  refine PFun.of [0, 1, 4, 5, 9, 18, 27, 36, 45, 56] Tryz.func133 rfl (by simp [Tryz.f133]) ?_
  intro d hd0 hfr hcl hout
  have hcd : ∀ n q, CleanH (hit [((d, n), q)]) H := fun n q => hcl.at
  have ha_n : ∀ n, ¬ (d, n) = r := fun n => nm_ne (ne_of_arr hfr ha)
  have ha_d : ¬ r.1 = d := ne_of_arr hfr ha
  have ha_m : ∀ n, ¬ r = (d, n) := fun n => nm_ne' (ne_of_arr hfr ha)
  simp (maxSteps := 4000000) [hd0, hfr, hout, hcl, hcd, delA_none, ha, ha_n, ha_d, ha_m, Tryz.f133]
  refine LoopK.intro (fun m s => ∃ i : Nat, i + m = rows.length ∧ s = ⟨[(0, .c (.sl r q 5 0 rows.length)), (1, I (k + lvRs (rows.take i))), (5, I i)], H, []⟩) (rows.length + 1)
    (LK.intro rows.length [0, 1, 5] [] (by omega) (by decide) (by simp (maxSteps := 4000000) [hd0, hfr, hout, hcl, hcd, delA_none, ha, ha_n, ha_d, ha_m]) ⟨0, by simp [lvRs]⟩) ?_
  rintro m s ⟨i, him, rfl⟩
  simp (maxSteps := 4000000) [hd0, hfr, hout, hcl, hcd, delA_none, ha, ha_n, ha_d, ha_m]
  constructor
  · intro hi
    have hi' : i < rows.length := by omega
    have w1 : IntKind.i64.wrap ((i : Int) + 1) = i + 1 := w64 (by omega) (by omega)
    have hok := ok _ (List.getElem_mem hi')
    have ht := lvRs_take hi'
    have hat := mkRs_get (k := k) hi'
    have hle := lvRs_le (rows := rows) (i := i + 1)
    obtain ⟨K, hK⟩ : ∃ K : Int, K = k + lvRs (rows.take i) := ⟨_, rfl⟩
    obtain ⟨a0, a1, a2, a3, c4, hx, lc4, oc4⟩ := hok
    rw [← hK] at hat ⊢
    rw [hx] at ht hat
    simp only [mkR_cons, mkR_nil, mkC_v, mkC_own, mkV, lvC_v, lvC_own, Int.natCast_one] at hat
    simp only [lvR_cons, lvC_v, lvC_own, lvR_nil] at ht
    have hatx := ix_of hat
    have wk1 : IntKind.i64.wrap (K + 1) = K + 1 := w64 (by omega) (by omega)
    have wk2 : IntKind.i64.wrap (K + 1 + 1) = K + 1 + 1 := w64 (by omega) (by omega)
    have wk3 : IntKind.i64.wrap (K + 1 + 1 + 1) = K + 1 + 1 + 1 := w64 (by omega) (by omega)
    have wk4 : IntKind.i64.wrap (K + 1 + 1 + 1 + 1) = K + 1 + 1 + 1 + 1 := w64 (by omega) (by omega)
    simp (maxSteps := 4000000) [hd0, hfr, hout, hcl, hcd, delA_none, ha, ha_n, ha_d, ha_m, hi', hatx, mkRs_length, wk1, wk2, wk3, wk4]
    have e4 := arrAt_sub ha hat (f := 4) (z' := 4) (els := mkRs (K + 1 + 1 + 1 + 1) c4) rfl
    refine (laws_heldUndoS _ lc4 oc4 (by omega) (by omega) e4).useCK ?_
    simp (maxSteps := 4000000) [hd0, hfr, hout, hcl, hcd, delA_none, ha, ha_n, ha_d, ha_m]
    refine ⟨fun h => by omega, fun _ => ?_⟩
    try simp (maxSteps := 4000000) [hd0, hfr, hout, hcl, hcd, delA_none, ha, ha_n, ha_d, ha_m, hi', hatx, mkRs_length, w1, wk1, wk2, wk3, wk4]
    exact LK.intro (m - 1) [0, 1, 5] [] (by omega) (by decide) (by simp (maxSteps := 4000000) [hd0, hfr, hout, hcl, hcd, delA_none, ha, ha_n, ha_d, ha_m]) ⟨i + 1, by omega, by simp; omega⟩
  · intro h
    simp (maxSteps := 4000000) [hd0, hfr, hout, hcl, hcd, delA_none, ha, ha_n, ha_d, ha_m, lvRs_all h]

theorem okVersion_lvb {r : List Cell} (h : okVersion 1048576 r) : lvR r ≤ 4 := by
  obtain ⟨a0, a1, a2, a3, rfl⟩ := h
  simp only [lvR_cons, lvR_nil, lvC_own, lvC_v]
  omega
theorem laws_heldVersionS (H : HH) {r q} {rows : List (List Cell)} {k : Int} (hb : rows.length ≤ 1048576) (ok : ∀ x ∈ rows, okVersion 1048576 x) (hk : 0 ≤ k) (hk2 : k + lvRs rows ≤ 4611686018427387904) (ha : arrAt H r q = some (4, mkRs k rows)) : PFun Tryz.prog 179 [.c (.sl r q 4 0 rows.length), I k] H (I (k + lvRs rows)) := by
  refine PFun.of [0, 1, 4, 5, 9, 18, 27, 38, 47] Tryz.func179 rfl (by simp [Tryz.f179]) ?_
  intro d hd0 hfr hcl hout
  have hcd : ∀ n q, CleanH (hit [((d, n), q)]) H := fun n q => hcl.at
  have ha_n : ∀ n, ¬ (d, n) = r := fun n => nm_ne (ne_of_arr hfr ha)
  have ha_d : ¬ r.1 = d := ne_of_arr hfr ha
  have ha_m : ∀ n, ¬ r = (d, n) := fun n => nm_ne' (ne_of_arr hfr ha)
  simp (maxSteps := 4000000) [hd0, hfr, hout, hcl, hcd, delA_none, ha, ha_n, ha_d, ha_m, Tryz.f179]
  refine LoopK.intro (fun m s => ∃ i : Nat, i + m = rows.length ∧ s = ⟨[(0, .c (.sl r q 4 0 rows.length)), (1, I (k + lvRs (rows.take i))), (5, I i)], H, []⟩) (rows.length + 1)
    (LK.intro rows.length [0, 1, 5] [] (by omega) (by decide) (by simp (maxSteps := 4000000) [hd0, hfr, hout, hcl, hcd, delA_none, ha, ha_n, ha_d, ha_m]) ⟨0, by simp [lvRs]⟩) ?_
  rintro m s ⟨i, him, rfl⟩
  simp (maxSteps := 4000000) [hd0, hfr, hout, hcl, hcd, delA_none, ha, ha_n, ha_d, ha_m]
  constructor
  · intro hi
    have hi' : i < rows.length := by omega
    have w1 : IntKind.i64.wrap ((i : Int) + 1) = i + 1 := w64 (by omega) (by omega)
    have hok := ok _ (List.getElem_mem hi')
    have ht := lvRs_take hi'
    have hat := mkRs_get (k := k) hi'
    have hle := lvRs_le (rows := rows) (i := i + 1)
    obtain ⟨K, hK⟩ : ∃ K : Int, K = k + lvRs (rows.take i) := ⟨_, rfl⟩
    obtain ⟨a0, a1, a2, a3, hx⟩ := hok
    rw [← hK] at hat ⊢
    rw [hx] at ht hat
    simp only [mkR_cons, mkR_nil, mkC_v, mkC_own, mkV, lvC_v, lvC_own, Int.natCast_one] at hat
    simp only [lvR_cons, lvC_v, lvC_own, lvR_nil] at ht
    have hatx := ix_of hat
    have wk1 : IntKind.i64.wrap (K + 1) = K + 1 := w64 (by omega) (by omega)
    have wk2 : IntKind.i64.wrap (K + 1 + 1) = K + 1 + 1 := w64 (by omega) (by omega)
    have wk3 : IntKind.i64.wrap (K + 1 + 1 + 1) = K + 1 + 1 + 1 := w64 (by omega) (by omega)
    have wk4 : IntKind.i64.wrap (K + 1 + 1 + 1 + 1) = K + 1 + 1 + 1 + 1 := w64 (by omega) (by omega)
    try simp (maxSteps := 4000000) [hd0, hfr, hout, hcl, hcd, delA_none, ha, ha_n, ha_d, ha_m, hi', hatx, mkRs_length, w1, wk1, wk2, wk3, wk4]
    exact LK.intro (m - 1) [0, 1, 5] [] (by omega) (by decide) (by simp (maxSteps := 4000000) [hd0, hfr, hout, hcl, hcd, delA_none, ha, ha_n, ha_d, ha_m]) ⟨i + 1, by omega, by simp; omega⟩
  · intro h
    simp (maxSteps := 4000000) [hd0, hfr, hout, hcl, hcd, delA_none, ha, ha_n, ha_d, ha_m, lvRs_all h]

theorem okRow_lvb {r : List Cell} (h : okRow 1048576 r) : lvR r ≤ 4194305 := by
  obtain ⟨a0, c1, rfl, lc1, oc1⟩ := h
  simp only [lvR_cons, lvR_nil, lvC_own, lvC_v]
  have kc1 := lvRs_bound (rows := c1) (n := 4) (fun x hx => okVersion_lvb (oc1 x hx))
  omega
theorem laws_heldRowS (H : HH) {r q} {rows : List (List Cell)} {k : Int} (hb : rows.length ≤ 1048576) (ok : ∀ x ∈ rows, okRow 1048576 x) (hk : 0 ≤ k) (hk2 : k + lvRs rows ≤ 4611686018427387904) (ha : arrAt H r q = some (2, mkRs k rows)) : PFun Tryz.prog 134 [.c (.sl r q 2 0 rows.length), I k] H (I (k + lvRs rows)) := by
  refine PFun.of [0, 1, 4, 5, 9, 18, 29] Tryz.func134 rfl (by simp [Tryz.f134]) ?_
  intro d hd0 hfr hcl hout
  have hcd : ∀ n q, CleanH (hit [((d, n), q)]) H := fun n q => hcl.at
  have ha_n : ∀ n, ¬ (d, n) = r := fun n => nm_ne (ne_of_arr hfr ha)
  have ha_d : ¬ r.1 = d := ne_of_arr hfr ha
  have ha_m : ∀ n, ¬ r = (d, n) := fun n => nm_ne' (ne_of_arr hfr ha)
  simp (maxSteps := 4000000) [hd0, hfr, hout, hcl, hcd, delA_none, ha, ha_n, ha_d, ha_m, Tryz.f134]
  refine LoopK.intro (fun m s => ∃ i : Nat, i + m = rows.length ∧ s = ⟨[(0, .c (.sl r q 2 0 rows.length)), (1, I (k + lvRs (rows.take i))), (5, I i)], H, []⟩) (rows.length + 1)
    (LK.intro rows.length [0, 1, 5] [] (by omega) (by decide) (by simp (maxSteps := 4000000) [hd0, hfr, hout, hcl, hcd, delA_none, ha, ha_n, ha_d, ha_m]) ⟨0, by simp [lvRs]⟩) ?_
  rintro m s ⟨i, him, rfl⟩
  simp (maxSteps := 4000000) [hd0, hfr, hout, hcl, hcd, delA_none, ha, ha_n, ha_d, ha_m]
  constructor
  · intro hi
    have hi' : i < rows.length := by omega
    have w1 : IntKind.i64.wrap ((i : Int) + 1) = i + 1 := w64 (by omega) (by omega)
    have hok := ok _ (List.getElem_mem hi')
    have ht := lvRs_take hi'
    have hat := mkRs_get (k := k) hi'
    have hle := lvRs_le (rows := rows) (i := i + 1)
    obtain ⟨K, hK⟩ : ∃ K : Int, K = k + lvRs (rows.take i) := ⟨_, rfl⟩
    obtain ⟨a0, c1, hx, lc1, oc1⟩ := hok
    rw [← hK] at hat ⊢
    rw [hx] at ht hat
    simp only [mkR_cons, mkR_nil, mkC_v, mkC_own, mkV, lvC_v, lvC_own, Int.natCast_one] at hat
    simp only [lvR_cons, lvC_v, lvC_own, lvR_nil] at ht
    have hatx := ix_of hat
    have wk1 : IntKind.i64.wrap (K + 1) = K + 1 := w64 (by omega) (by omega)
    simp (maxSteps := 4000000) [hd0, hfr, hout, hcl, hcd, delA_none, ha, ha_n, ha_d, ha_m, hi', hatx, mkRs_length, wk1]
    have e1 := arrAt_sub ha hat (f := 1) (z' := 4) (els := mkRs (K + 1) c1) rfl
    refine (laws_heldVersionS _ lc1 oc1 (by omega) (by omega) e1).useCK ?_
    simp (maxSteps := 4000000) [hd0, hfr, hout, hcl, hcd, delA_none, ha, ha_n, ha_d, ha_m]
    refine ⟨fun h => by omega, fun _ => ?_⟩
    try simp (maxSteps := 4000000) [hd0, hfr, hout, hcl, hcd, delA_none, ha, ha_n, ha_d, ha_m, hi', hatx, mkRs_length, w1, wk1]
    exact LK.intro (m - 1) [0, 1, 5] [] (by omega) (by decide) (by simp (maxSteps := 4000000) [hd0, hfr, hout, hcl, hcd, delA_none, ha, ha_n, ha_d, ha_m]) ⟨i + 1, by omega, by simp; omega⟩
  · intro h
    simp (maxSteps := 4000000) [hd0, hfr, hout, hcl, hcd, delA_none, ha, ha_n, ha_d, ha_m, lvRs_all h]

theorem okEngine_lvsb {r : List Cell} (h : okEngine 1048576 r) : lvS r ≤ 8796098265090 := by
  obtain ⟨a0, a1, c2, c3, rfl, lc2, oc2, lc3, oc3⟩ := h
  simp only [lvS]
  have kc2 := lvRs_bound (rows := c2) (n := 4194308) (fun x hx => okTxn_lvb (oc2 x hx))
  have kc3 := lvRs_bound (rows := c3) (n := 4194305) (fun x hx => okRow_lvb (oc3 x hx))
  omega
theorem laws_heldEngine (H : HH) {row cs : List Cell} {k : Int} (ok : okEngine 1048576 row) (hk : 0 ≤ k) (hk2 : k + lvS row ≤ 4611686018427387904) (hr : Refs H (mkS k row) cs) : PFun Tryz.prog 66 [.a cs, I k] H (I (k + lvS row)) := by
  obtain ⟨a0, a1, c2, c3, rfl, lc2, oc2, lc3, oc3⟩ := ok
  simp only [mkS, Refs_v, Refs_own, Refs_nil, mkRs_length] at hr
  obtain ⟨_, rfl, _, rfl, rc2, qc2, _, rfl, hc2, rc3, qc3, _, rfl, hc3, rfl⟩ := hr
  simp only [lvS] at hk2 ⊢
  refine PFun.of [1, 2, 4, 10, 16] Tryz.func66 rfl (by simp [Tryz.f66]) ?_
  intro d hd0 hfr hcl hout
  have hcd : ∀ n q, CleanH (hit [((d, n), q)]) H := fun n q => hcl.at
  have hc2_n : ∀ n, ¬ (d, n) = rc2 := fun n => nm_ne (ne_of_arr hfr hc2)
  have hc2_d : ¬ rc2.1 = d := ne_of_arr hfr hc2
  have hc2_m : ∀ n, ¬ rc2 = (d, n) := fun n => nm_ne' (ne_of_arr hfr hc2)
  have hc3_n : ∀ n, ¬ (d, n) = rc3 := fun n => nm_ne (ne_of_arr hfr hc3)
  have hc3_d : ¬ rc3.1 = d := ne_of_arr hfr hc3
  have hc3_m : ∀ n, ¬ rc3 = (d, n) := fun n => nm_ne' (ne_of_arr hfr hc3)
  simp (maxSteps := 4000000) [hd0, hfr, hout, hcl, hcd, delA_none, hc2, hc2_n, hc2_d, hc2_m, hc3, hc3_n, hc3_d, hc3_m, Tryz.f66]
  refine (laws_heldTxnS _ lc2 oc2 (by omega) (by omega) (by simp (maxSteps := 4000000) [hd0, hfr, hout, hcl, hcd, delA_none, hc2, hc2_n, hc2_d, hc2_m, hc3, hc3_n, hc3_d, hc3_m])).useCK ?_
  simp (maxSteps := 4000000) [hd0, hfr, hout, hcl, hcd, delA_none, hc2, hc2_n, hc2_d, hc2_m, hc3, hc3_n, hc3_d, hc3_m]
  first | (intro h; omega) | (refine ⟨fun h => by omega, fun _ => ?_⟩; skip)
  refine (laws_heldRowS _ lc3 oc3 (by omega) (by omega) (by simp (maxSteps := 4000000) [hd0, hfr, hout, hcl, hcd, delA_none, hc2, hc2_n, hc2_d, hc2_m, hc3, hc3_n, hc3_d, hc3_m])).useCK ?_
  simp (maxSteps := 4000000) [hd0, hfr, hout, hcl, hcd, delA_none, hc2, hc2_n, hc2_d, hc2_m, hc3, hc3_n, hc3_d, hc3_m]
  first | (intro h; omega) | (refine ⟨fun h => by omega, fun _ => ?_⟩; skip)
  try omega

theorem okEngineResult_lvsb {r : List Cell} (h : okEngineResult 1048576 r) : lvS r ≤ 8796098265092 := by
  obtain ⟨a0, a1, a2, a3, c4, c5, rfl, lc4, oc4, lc5, oc5⟩ := h
  simp only [lvS]
  have kc4 := lvRs_bound (rows := c4) (n := 4194308) (fun x hx => okTxn_lvb (oc4 x hx))
  have kc5 := lvRs_bound (rows := c5) (n := 4194305) (fun x hx => okRow_lvb (oc5 x hx))
  omega
theorem laws_heldEngineResult (H : HH) {row cs : List Cell} {k : Int} (ok : okEngineResult 1048576 row) (hk : 0 ≤ k) (hk2 : k + lvS row ≤ 4611686018427387904) (hr : Refs H (mkS k row) cs) : PFun Tryz.prog 20 [.a cs, I k] H (I (k + lvS row)) := by
  obtain ⟨a0, a1, a2, a3, c4, c5, rfl, lc4, oc4, lc5, oc5⟩ := ok
  simp only [mkS, Refs_v, Refs_own, Refs_nil, mkRs_length] at hr
  obtain ⟨_, rfl, _, rfl, _, rfl, _, rfl, rc4, qc4, _, rfl, hc4, rc5, qc5, _, rfl, hc5, rfl⟩ := hr
  simp only [lvS] at hk2 ⊢
  refine PFun.of [1, 2, 4, 10] Tryz.func20 rfl (by simp [Tryz.f20]) ?_
  intro d hd0 hfr hcl hout
  have hcd : ∀ n q, CleanH (hit [((d, n), q)]) H := fun n q => hcl.at
  have hc4_n : ∀ n, ¬ (d, n) = rc4 := fun n => nm_ne (ne_of_arr hfr hc4)
  have hc4_d : ¬ rc4.1 = d := ne_of_arr hfr hc4
  have hc4_m : ∀ n, ¬ rc4 = (d, n) := fun n => nm_ne' (ne_of_arr hfr hc4)
  have hc5_n : ∀ n, ¬ (d, n) = rc5 := fun n => nm_ne (ne_of_arr hfr hc5)
  have hc5_d : ¬ rc5.1 = d := ne_of_arr hfr hc5
  have hc5_m : ∀ n, ¬ rc5 = (d, n) := fun n => nm_ne' (ne_of_arr hfr hc5)
  simp (maxSteps := 4000000) [hd0, hfr, hout, hcl, hcd, delA_none, hc4, hc4_n, hc4_d, hc4_m, hc5, hc5_n, hc5_d, hc5_m, Tryz.f20]
  refine (laws_heldEngine _ (row := [.v (.int .i64 a2), .v (.int .i64 a3), .own 5 c4, .own 2 c5]) ⟨a2, a3, c4, c5, rfl, lc4, oc4, lc5, oc5⟩ (by omega) (by simp only [lvS]; omega) (by simp only [mkS, Refs_v, Refs_own, Refs_nil, mkRs_length]; exact ⟨_, rfl, ⟨_, rfl, ⟨_, _, _, rfl, by simp (maxSteps := 4000000) [hd0, hfr, hout, hcl, hcd, delA_none, hc4, hc4_n, hc4_d, hc4_m, hc5, hc5_n, hc5_d, hc5_m], ⟨_, _, _, rfl, by simp (maxSteps := 4000000) [hd0, hfr, hout, hcl, hcd, delA_none, hc4, hc4_n, hc4_d, hc4_m, hc5, hc5_n, hc5_d, hc5_m], rfl⟩⟩⟩⟩)).useCK ?_
  simp (maxSteps := 4000000) [hd0, hfr, hout, hcl, hcd, delA_none, hc4, hc4_n, hc4_d, hc4_m, hc5, hc5_n, hc5_d, hc5_m, lvS]
  first | (intro h; omega) | (refine ⟨fun h => by omega, fun _ => ?_⟩; skip)
  try omega

theorem laws_markUndoS (H : HH) {r q} {rows : List (List Cell)} {k : Int} (hb : rows.length ≤ 1048576) (ok : ∀ x ∈ rows, okUndo 1048576 x) (hk : 0 ≤ k) (hk2 : k + lvRs rows ≤ 4611686018427387904) (ha : arrAt H r q = some (4, rows)) (h0 : r.1 ≠ 0) : PUpd Tryz.prog 131 [.c (.sl r q 4 0 rows.length), I k] H (I (k + lvRs rows)) (setA H r q (.own 4 (mkRs k rows))) := by
  have hp : ∀ K, CleanRows K rows := fun K x hx => okUndo_pure (ok x hx) K
  refine PUpd.of [0, 1, 4, 5, 9] Tryz.func131 rfl (by simp [Tryz.f131]) ?_
  intro d hd0 hfr hcl hout
  have hcd : ∀ n q, CleanH (hit [((d, n), q)]) H := fun n q => hcl.at
  have ha_n : ∀ n, ¬ (d, n) = r := fun n => nm_ne (ne_of_arr hfr ha)
  have ha_d : ¬ r.1 = d := ne_of_arr hfr ha
  have ha_m : ∀ n, ¬ r = (d, n) := fun n => nm_ne' (ne_of_arr hfr ha)
  simp (maxSteps := 4000000) [hd0, hfr, hout, hcl, hcd, delA_none, ha, ha_n, ha_d, ha_m, Tryz.f131]
  refine LoopK.intro (fun m s => ∃ i : Nat, i + m = rows.length ∧ s = ⟨[(0, .c (.sl r q 4 0 rows.length)), (1, I (k + lvRs (rows.take i))), (5, I i)], setA H r q (.own 4 (mkTo k rows i)), []⟩) (rows.length + 1)
    (LK.intro rows.length [0, 1, 5] [] (by omega) (by decide) (by simp (maxSteps := 4000000) [hd0, hfr, hout, hcl, hcd, delA_none, ha, ha_n, ha_d, ha_m]) ⟨0, by simp [lvRs, mkTo_zero, setA_self ha]⟩) ?_
  rintro m s ⟨i, him, rfl⟩
  have ha1 := arrAt_setA (z := 4) (rows := mkTo k rows i) ha
  simp (maxSteps := 4000000) [hd0, hfr, hout, hcl, hcd, delA_none, ha, ha_n, ha_d, ha_m]
  constructor
  · intro hi
    have hi' : i < rows.length := by omega
    have w1 : IntKind.i64.wrap ((i : Int) + 1) = i + 1 := w64 (by omega) (by omega)
    have hok := ok _ (List.getElem_mem hi')
    have hs := mkTo_set (k := k) hi'
    have ht := lvRs_take hi'
    have hat := mkTo_at (k := k) hi'
    have hle := lvRs_le (rows := rows) (i := i + 1)
    obtain ⟨K, hK⟩ : ∃ K : Int, K = k + lvRs (rows.take i) := ⟨_, rfl⟩
    obtain ⟨a0, a1, a2, a3, hx⟩ := hok
    rw [← hK] at hs ⊢
    rw [hx] at hs ht hat
    simp only [mkR_cons, mkR_nil, mkC_v, mkC_own, mkV, lvC_v, lvC_own, Int.natCast_one] at hs
    simp only [lvR_cons, lvC_v, lvC_own, lvR_nil] at ht
    have hatx := ix_of hat
    have wk1 : IntKind.i64.wrap (K + 1) = K + 1 := w64 (by omega) (by omega)
    have wk2 : IntKind.i64.wrap (K + 1 + 1) = K + 1 + 1 := w64 (by omega) (by omega)
    have wk3 : IntKind.i64.wrap (K + 1 + 1 + 1) = K + 1 + 1 + 1 := w64 (by omega) (by omega)
    have wk4 : IntKind.i64.wrap (K + 1 + 1 + 1 + 1) = K + 1 + 1 + 1 + 1 := w64 (by omega) (by omega)
    simp (maxSteps := 4000000) [hd0, hfr, hout, hcl, hcd, delA_none, ha, ha_n, ha_d, ha_m, h0, hi', hx, ha1, hatx, List.getElem?_set, mkTo_length, setA_setA ha, List.set_set, arrAt_setA ha, w1, hs, wk1, wk2, wk3, wk4]
    exact LK.intro (m - 1) [0, 1, 5] [] (by omega) (by decide) (by simp (maxSteps := 4000000) [hd0, hfr, hout, hcl, hcd, delA_none, ha, ha_n, ha_d, ha_m]) ⟨i + 1, by omega, by simp [hs]; omega⟩
  · intro h
    have hcl' := CleanH_setA (q := q) (r := r) (c := .own 4 (mkRs k rows)) hcl (by rw [Clean_ownR]; exact mkRs_clean (hp _))
    simp (maxSteps := 4000000) [hd0, hfr, hout, hcl, hcd, delA_none, ha, ha_n, ha_d, ha_m, mkTo_all h, lvRs_all h, outH_setA, hcl']

theorem laws_markTxnS (H : HH) {r q} {rows : List (List Cell)} {k : Int} (hb : rows.length ≤ 1048576) (ok : ∀ x ∈ rows, okTxn 1048576 x) (hk : 0 ≤ k) (hk2 : k + lvRs rows ≤ 4611686018427387904) (ha : arrAt H r q = some (5, rows)) (h0 : r.1 ≠ 0) : PUpd Tryz.prog 64 [.c (.sl r q 5 0 rows.length), I k] H (I (k + lvRs rows)) (setA H r q (.own 5 (mkRs k rows))) := by
  have hp : ∀ K, CleanRows K rows := fun K x hx => okTxn_pure (ok x hx) K
  refine PUpd.of [0, 1, 4, 5, 9] Tryz.func64 rfl (by simp [Tryz.f64]) ?_
  intro d hd0 hfr hcl hout
  have hcd : ∀ n q, CleanH (hit [((d, n), q)]) H := fun n q => hcl.at
  have ha_n : ∀ n, ¬ (d, n) = r := fun n => nm_ne (ne_of_arr hfr ha)
  have ha_d : ¬ r.1 = d := ne_of_arr hfr ha
  have ha_m : ∀ n, ¬ r = (d, n) := fun n => nm_ne' (ne_of_arr hfr ha)
  simp (maxSteps := 4000000) [hd0, hfr, hout, hcl, hcd, delA_none, ha, ha_n, ha_d, ha_m, Tryz.f64]
  refine LoopK.intro (fun m s => ∃ i : Nat, i + m = rows.length ∧ s = ⟨[(0, .c (.sl r q 5 0 rows.length)), (1, I (k + lvRs (rows.take i))), (5, I i)], setA H r q (.own 5 (mkTo k rows i)), []⟩) (rows.length + 1)
    (LK.intro rows.length [0, 1, 5] [] (by omega) (by decide) (by simp (maxSteps := 4000000) [hd0, hfr, hout, hcl, hcd, delA_none, ha, ha_n, ha_d, ha_m]) ⟨0, by simp [lvRs, mkTo_zero, setA_self ha]⟩) ?_
  rintro m s ⟨i, him, rfl⟩
  have ha1 := arrAt_setA (z := 5) (rows := mkTo k rows i) ha
  simp (maxSteps := 4000000) [hd0, hfr, hout, hcl, hcd, delA_none, ha, ha_n, ha_d, ha_m]
  constructor
  · intro hi
    have hi' : i < rows.length := by omega
    have w1 : IntKind.i64.wrap ((i : Int) + 1) = i + 1 := w64 (by omega) (by omega)
    have hok := ok _ (List.getElem_mem hi')
    have hs := mkTo_set (k := k) hi'
    have ht := lvRs_take hi'
    have hat := mkTo_at (k := k) hi'
    have hle := lvRs_le (rows := rows) (i := i + 1)
    obtain ⟨K, hK⟩ : ∃ K : Int, K = k + lvRs (rows.take i) := ⟨_, rfl⟩
    obtain ⟨a0, a1, a2, a3, c4, hx, lc4, oc4⟩ := hok
    rw [← hK] at hs ⊢
    rw [hx] at hs ht hat
    simp only [mkR_cons, mkR_nil, mkC_v, mkC_own, mkV, lvC_v, lvC_own, Int.natCast_one] at hs
    simp only [lvR_cons, lvC_v, lvC_own, lvR_nil] at ht
    have hatx := ix_of hat
    have wk1 : IntKind.i64.wrap (K + 1) = K + 1 := w64 (by omega) (by omega)
    have wk2 : IntKind.i64.wrap (K + 1 + 1) = K + 1 + 1 := w64 (by omega) (by omega)
    have wk3 : IntKind.i64.wrap (K + 1 + 1 + 1) = K + 1 + 1 + 1 := w64 (by omega) (by omega)
    have wk4 : IntKind.i64.wrap (K + 1 + 1 + 1 + 1) = K + 1 + 1 + 1 + 1 := w64 (by omega) (by omega)
    simp (maxSteps := 4000000) [hd0, hfr, hout, hcl, hcd, delA_none, ha, ha_n, ha_d, ha_m, h0, hi', hx, ha1, hatx, List.getElem?_set, mkTo_length, setA_setA ha, List.set_set, arrAt_setA ha, wk1, wk2, wk3, wk4]
    have e4 : arrAt (setA H r q (.own 5 ((mkTo k rows i).set i [.v (.int .i64 (K)), .v (.int .i64 (K + 1)), .v (.int .i64 (K + 1 + 1)), .v (.int .i64 (K + 1 + 1 + 1)), .own 4 c4]))) r (q ++ [(i, 4)]) = some (4, c4) := arrAt_sub (arrAt_setA ha) (by simp [List.getElem?_set, mkTo_length, hi']; rfl) rfl
    skip
    refine (laws_markUndoS _ lc4 oc4 (by omega) (by omega) e4 h0).useCK ?_
    have g4 : setA (setA H r q (.own 5 ((mkTo k rows i).set i [.v (.int .i64 (K)), .v (.int .i64 (K + 1)), .v (.int .i64 (K + 1 + 1)), .v (.int .i64 (K + 1 + 1 + 1)), .own 4 c4]))) r (q ++ [(i, 4)]) (.own 4 (mkRs (K + 1 + 1 + 1 + 1) c4)) = setA H r q (.own 5 ((mkTo k rows i).set i [.v (.int .i64 (K)), .v (.int .i64 (K + 1)), .v (.int .i64 (K + 1 + 1)), .v (.int .i64 (K + 1 + 1 + 1)), .own 4 (mkRs (K + 1 + 1 + 1 + 1) c4)])) := by
      rw [setA_sub (arrAt_setA ha) (by first | exact hat | (simp [List.getElem?_set, mkTo_length, hi']; rfl)) rfl, setA_setA ha]; simp [List.set_set]
    simp (maxSteps := 4000000) [hd0, hfr, hout, hcl, hcd, delA_none, ha, ha_n, ha_d, ha_m, h0, hi', hx, ha1, hatx, List.getElem?_set, mkTo_length, setA_setA ha, List.set_set, arrAt_setA ha, w1, hs, wk1, wk2, wk3, wk4, g4]
    exact LK.intro (m - 1) [0, 1, 5] [] (by omega) (by decide) (by simp (maxSteps := 4000000) [hd0, hfr, hout, hcl, hcd, delA_none, ha, ha_n, ha_d, ha_m]) ⟨i + 1, by omega, by simp [hs]; omega⟩
  · intro h
    have hcl' := CleanH_setA (q := q) (r := r) (c := .own 5 (mkRs k rows)) hcl (by rw [Clean_ownR]; exact mkRs_clean (hp _))
    simp (maxSteps := 4000000) [hd0, hfr, hout, hcl, hcd, delA_none, ha, ha_n, ha_d, ha_m, mkTo_all h, lvRs_all h, outH_setA, hcl']

theorem laws_markVersionS (H : HH) {r q} {rows : List (List Cell)} {k : Int} (hb : rows.length ≤ 1048576) (ok : ∀ x ∈ rows, okVersion 1048576 x) (hk : 0 ≤ k) (hk2 : k + lvRs rows ≤ 4611686018427387904) (ha : arrAt H r q = some (4, rows)) (h0 : r.1 ≠ 0) : PUpd Tryz.prog 132 [.c (.sl r q 4 0 rows.length), I k] H (I (k + lvRs rows)) (setA H r q (.own 4 (mkRs k rows))) := by
  have hp : ∀ K, CleanRows K rows := fun K x hx => okVersion_pure (ok x hx) K
  refine PUpd.of [0, 1, 4, 5, 9] Tryz.func132 rfl (by simp [Tryz.f132]) ?_
  intro d hd0 hfr hcl hout
  have hcd : ∀ n q, CleanH (hit [((d, n), q)]) H := fun n q => hcl.at
  have ha_n : ∀ n, ¬ (d, n) = r := fun n => nm_ne (ne_of_arr hfr ha)
  have ha_d : ¬ r.1 = d := ne_of_arr hfr ha
  have ha_m : ∀ n, ¬ r = (d, n) := fun n => nm_ne' (ne_of_arr hfr ha)
  simp (maxSteps := 4000000) [hd0, hfr, hout, hcl, hcd, delA_none, ha, ha_n, ha_d, ha_m, Tryz.f132]
  refine LoopK.intro (fun m s => ∃ i : Nat, i + m = rows.length ∧ s = ⟨[(0, .c (.sl r q 4 0 rows.length)), (1, I (k + lvRs (rows.take i))), (5, I i)], setA H r q (.own 4 (mkTo k rows i)), []⟩) (rows.length + 1)
    (LK.intro rows.length [0, 1, 5] [] (by omega) (by decide) (by simp (maxSteps := 4000000) [hd0, hfr, hout, hcl, hcd, delA_none, ha, ha_n, ha_d, ha_m]) ⟨0, by simp [lvRs, mkTo_zero, setA_self ha]⟩) ?_
  rintro m s ⟨i, him, rfl⟩
  have ha1 := arrAt_setA (z := 4) (rows := mkTo k rows i) ha
  simp (maxSteps := 4000000) [hd0, hfr, hout, hcl, hcd, delA_none, ha, ha_n, ha_d, ha_m]
  constructor
  · intro hi
    have hi' : i < rows.length := by omega
    have w1 : IntKind.i64.wrap ((i : Int) + 1) = i + 1 := w64 (by omega) (by omega)
    have hok := ok _ (List.getElem_mem hi')
    have hs := mkTo_set (k := k) hi'
    have ht := lvRs_take hi'
    have hat := mkTo_at (k := k) hi'
    have hle := lvRs_le (rows := rows) (i := i + 1)
    obtain ⟨K, hK⟩ : ∃ K : Int, K = k + lvRs (rows.take i) := ⟨_, rfl⟩
    obtain ⟨a0, a1, a2, a3, hx⟩ := hok
    rw [← hK] at hs ⊢
    rw [hx] at hs ht hat
    simp only [mkR_cons, mkR_nil, mkC_v, mkC_own, mkV, lvC_v, lvC_own, Int.natCast_one] at hs
    simp only [lvR_cons, lvC_v, lvC_own, lvR_nil] at ht
    have hatx := ix_of hat
    have wk1 : IntKind.i64.wrap (K + 1) = K + 1 := w64 (by omega) (by omega)
    have wk2 : IntKind.i64.wrap (K + 1 + 1) = K + 1 + 1 := w64 (by omega) (by omega)
    have wk3 : IntKind.i64.wrap (K + 1 + 1 + 1) = K + 1 + 1 + 1 := w64 (by omega) (by omega)
    have wk4 : IntKind.i64.wrap (K + 1 + 1 + 1 + 1) = K + 1 + 1 + 1 + 1 := w64 (by omega) (by omega)
    simp (maxSteps := 4000000) [hd0, hfr, hout, hcl, hcd, delA_none, ha, ha_n, ha_d, ha_m, h0, hi', hx, ha1, hatx, List.getElem?_set, mkTo_length, setA_setA ha, List.set_set, arrAt_setA ha, w1, hs, wk1, wk2, wk3, wk4]
    exact LK.intro (m - 1) [0, 1, 5] [] (by omega) (by decide) (by simp (maxSteps := 4000000) [hd0, hfr, hout, hcl, hcd, delA_none, ha, ha_n, ha_d, ha_m]) ⟨i + 1, by omega, by simp [hs]; omega⟩
  · intro h
    have hcl' := CleanH_setA (q := q) (r := r) (c := .own 4 (mkRs k rows)) hcl (by rw [Clean_ownR]; exact mkRs_clean (hp _))
    simp (maxSteps := 4000000) [hd0, hfr, hout, hcl, hcd, delA_none, ha, ha_n, ha_d, ha_m, mkTo_all h, lvRs_all h, outH_setA, hcl']

theorem laws_markRowS (H : HH) {r q} {rows : List (List Cell)} {k : Int} (hb : rows.length ≤ 1048576) (ok : ∀ x ∈ rows, okRow 1048576 x) (hk : 0 ≤ k) (hk2 : k + lvRs rows ≤ 4611686018427387904) (ha : arrAt H r q = some (2, rows)) (h0 : r.1 ≠ 0) : PUpd Tryz.prog 65 [.c (.sl r q 2 0 rows.length), I k] H (I (k + lvRs rows)) (setA H r q (.own 2 (mkRs k rows))) := by
  have hp : ∀ K, CleanRows K rows := fun K x hx => okRow_pure (ok x hx) K
  refine PUpd.of [0, 1, 4, 5, 9] Tryz.func65 rfl (by simp [Tryz.f65]) ?_
  intro d hd0 hfr hcl hout
  have hcd : ∀ n q, CleanH (hit [((d, n), q)]) H := fun n q => hcl.at
  have ha_n : ∀ n, ¬ (d, n) = r := fun n => nm_ne (ne_of_arr hfr ha)
  have ha_d : ¬ r.1 = d := ne_of_arr hfr ha
  have ha_m : ∀ n, ¬ r = (d, n) := fun n => nm_ne' (ne_of_arr hfr ha)
  simp (maxSteps := 4000000) [hd0, hfr, hout, hcl, hcd, delA_none, ha, ha_n, ha_d, ha_m, Tryz.f65]
  refine LoopK.intro (fun m s => ∃ i : Nat, i + m = rows.length ∧ s = ⟨[(0, .c (.sl r q 2 0 rows.length)), (1, I (k + lvRs (rows.take i))), (5, I i)], setA H r q (.own 2 (mkTo k rows i)), []⟩) (rows.length + 1)
    (LK.intro rows.length [0, 1, 5] [] (by omega) (by decide) (by simp (maxSteps := 4000000) [hd0, hfr, hout, hcl, hcd, delA_none, ha, ha_n, ha_d, ha_m]) ⟨0, by simp [lvRs, mkTo_zero, setA_self ha]⟩) ?_
  rintro m s ⟨i, him, rfl⟩
  have ha1 := arrAt_setA (z := 2) (rows := mkTo k rows i) ha
  simp (maxSteps := 4000000) [hd0, hfr, hout, hcl, hcd, delA_none, ha, ha_n, ha_d, ha_m]
  constructor
  · intro hi
    have hi' : i < rows.length := by omega
    have w1 : IntKind.i64.wrap ((i : Int) + 1) = i + 1 := w64 (by omega) (by omega)
    have hok := ok _ (List.getElem_mem hi')
    have hs := mkTo_set (k := k) hi'
    have ht := lvRs_take hi'
    have hat := mkTo_at (k := k) hi'
    have hle := lvRs_le (rows := rows) (i := i + 1)
    obtain ⟨K, hK⟩ : ∃ K : Int, K = k + lvRs (rows.take i) := ⟨_, rfl⟩
    obtain ⟨a0, c1, hx, lc1, oc1⟩ := hok
    rw [← hK] at hs ⊢
    rw [hx] at hs ht hat
    simp only [mkR_cons, mkR_nil, mkC_v, mkC_own, mkV, lvC_v, lvC_own, Int.natCast_one] at hs
    simp only [lvR_cons, lvC_v, lvC_own, lvR_nil] at ht
    have hatx := ix_of hat
    have wk1 : IntKind.i64.wrap (K + 1) = K + 1 := w64 (by omega) (by omega)
    simp (maxSteps := 4000000) [hd0, hfr, hout, hcl, hcd, delA_none, ha, ha_n, ha_d, ha_m, h0, hi', hx, ha1, hatx, List.getElem?_set, mkTo_length, setA_setA ha, List.set_set, arrAt_setA ha, wk1]
    have e1 : arrAt (setA H r q (.own 2 ((mkTo k rows i).set i [.v (.int .i64 (K)), .own 4 c1]))) r (q ++ [(i, 1)]) = some (4, c1) := arrAt_sub (arrAt_setA ha) (by simp [List.getElem?_set, mkTo_length, hi']; rfl) rfl
    skip
    refine (laws_markVersionS _ lc1 oc1 (by omega) (by omega) e1 h0).useCK ?_
    have g1 : setA (setA H r q (.own 2 ((mkTo k rows i).set i [.v (.int .i64 (K)), .own 4 c1]))) r (q ++ [(i, 1)]) (.own 4 (mkRs (K + 1) c1)) = setA H r q (.own 2 ((mkTo k rows i).set i [.v (.int .i64 (K)), .own 4 (mkRs (K + 1) c1)])) := by
      rw [setA_sub (arrAt_setA ha) (by first | exact hat | (simp [List.getElem?_set, mkTo_length, hi']; rfl)) rfl, setA_setA ha]; simp [List.set_set]
    simp (maxSteps := 4000000) [hd0, hfr, hout, hcl, hcd, delA_none, ha, ha_n, ha_d, ha_m, h0, hi', hx, ha1, hatx, List.getElem?_set, mkTo_length, setA_setA ha, List.set_set, arrAt_setA ha, w1, hs, wk1, g1]
    exact LK.intro (m - 1) [0, 1, 5] [] (by omega) (by decide) (by simp (maxSteps := 4000000) [hd0, hfr, hout, hcl, hcd, delA_none, ha, ha_n, ha_d, ha_m]) ⟨i + 1, by omega, by simp [hs]; omega⟩
  · intro h
    have hcl' := CleanH_setA (q := q) (r := r) (c := .own 2 (mkRs k rows)) hcl (by rw [Clean_ownR]; exact mkRs_clean (hp _))
    simp (maxSteps := 4000000) [hd0, hfr, hout, hcl, hcd, delA_none, ha, ha_n, ha_d, ha_m, mkTo_all h, lvRs_all h, outH_setA, hcl']

theorem laws_markEngine (H : HH) {r q z i f} {rows : List (List Cell)} {pre seg post : List Cell} {k : Int} (ok : okEngine 1048576 seg) (hk : 0 ≤ k) (hk2 : k + lvS seg ≤ 4611686018427387904) (ha : arrAt H r q = some (z, rows)) (h0 : r.1 ≠ 0) (hi : rows[i]? = some (pre ++ seg ++ post)) (hf : f = pre.length) : PUpd Tryz.prog 18 [.a (ldcs r q i f seg), I k] H (I (k + lvS seg)) (setA H r q (.own z (rows.set i (pre ++ mkS k seg ++ post)))) := by
  obtain ⟨a0, a1, c2, c3, rfl, lc2, oc2, lc3, oc3⟩ := ok
  have pc2 : ∀ K, CleanRows K c2 := fun K x hx => okTxn_pure (oc2 x hx) K
  have pc3 : ∀ K, CleanRows K c3 := fun K x hx => okRow_pure (oc3 x hx) K
  subst hf
  have hi' : i < rows.length := (List.getElem?_eq_some_iff.1 hi).1
  simp only [lvS] at hk2 ⊢
  simp only [mkS]
  refine PUpd.of [1, 2, 4] Tryz.func18 rfl (by simp [Tryz.f18]) ?_
  intro d hd0 hfr hcl hout
  have hcd : ∀ n q, CleanH (hit [((d, n), q)]) H := fun n q => hcl.at
  have ha_n : ∀ n, ¬ (d, n) = r := fun n => nm_ne (ne_of_arr hfr ha)
  have ha_d : ¬ r.1 = d := ne_of_arr hfr ha
  have ha_m : ∀ n, ¬ r = (d, n) := fun n => nm_ne' (ne_of_arr hfr ha)
  simp (maxSteps := 4000000) [hd0, hfr, hout, hcl, hcd, delA_none, ha, ha_n, ha_d, ha_m, Tryz.f18]
  have s0 := arrAt_sub ha hi (f := pre.length + 2) (z' := 5) (els := c2) (by simp)
  try simp only [Nat.add_zero, List.append_assoc, List.cons_append, List.nil_append] at s0
  refine (laws_markTxnS _ lc2 oc2 (by omega) (by omega) (by simp (maxSteps := 4000000) [hd0, hfr, hout, hcl, hcd, delA_none, ha, ha_n, ha_d, ha_m, s0]) h0).useCK ?_
  have e0 : setA (H) r (q ++ [(i, pre.length + 2)]) (.own 5 (mkRs (k) c2)) = setA H r q (.own z (rows.set i (pre ++ [.v (.int .i64 a0), .v (.int .i64 a1), .own 5 (mkRs (k) c2), .own 2 c3] ++ post))) := by
    rw [setA_sub ha hi (c0 := .own 5 c2) (by simp)]; simp
  try simp only [Nat.add_zero, List.append_assoc, List.cons_append, List.nil_append] at e0
  simp (maxSteps := 4000000) [hd0, hfr, hout, hcl, hcd, delA_none, ha, ha_n, ha_d, ha_m, e0]
  have s1 := arrAt_sub (arrAt_setA (z := z) (rows := rows.set i (pre ++ [.v (.int .i64 a0), .v (.int .i64 a1), .own 5 (mkRs (k) c2), .own 2 c3] ++ post)) ha) (i := i) (row := pre ++ [.v (.int .i64 a0), .v (.int .i64 a1), .own 5 (mkRs (k) c2), .own 2 c3] ++ post) (by simp [hi']) (f := pre.length + 3) (z' := 2) (els := c3) (by simp)
  try simp only [Nat.add_zero, List.append_assoc, List.cons_append, List.nil_append] at s1
  refine (laws_markRowS _ lc3 oc3 (by omega) (by omega) (by simp (maxSteps := 4000000) [hd0, hfr, hout, hcl, hcd, delA_none, ha, ha_n, ha_d, ha_m, s1]) h0).useCK ?_
  have e1 : setA (setA H r q (.own z (rows.set i (pre ++ [.v (.int .i64 a0), .v (.int .i64 a1), .own 5 (mkRs (k) c2), .own 2 c3] ++ post)))) r (q ++ [(i, pre.length + 3)]) (.own 2 (mkRs (k + lvRs c2) c3)) = setA H r q (.own z (rows.set i (pre ++ [.v (.int .i64 a0), .v (.int .i64 a1), .own 5 (mkRs (k) c2), .own 2 (mkRs (k + lvRs c2) c3)] ++ post))) := by
    rw [setA_sub (arrAt_setA ha) (row := pre ++ [.v (.int .i64 a0), .v (.int .i64 a1), .own 5 (mkRs (k) c2), .own 2 c3] ++ post) (by simp [hi']) (c0 := .own 2 c3) (by simp), setA_setA ha]; simp
  try simp only [Nat.add_zero, List.append_assoc, List.cons_append, List.nil_append] at e1
  have hc' := CleanH_setA (q := q) (r := r) (c := .own z (rows.set i (pre ++ [.v (.int .i64 a0), .v (.int .i64 a1), .own 5 (mkRs (k) c2), .own 2 (mkRs (k + lvRs c2) c3)] ++ post))) hcl (by
    have h1 := (CleanH_arr hcl ha)
    rw [Clean_ownR] at h1 ⊢
    have h2 := h1 _ (List.mem_of_getElem? hi)
    simp [cells1_append] at h2
    refine (CleanRows_set h1 ?_).2 trivial
    simp [cells1_append, h2, mkRs_clean, pc2, pc3])
  try simp only [List.append_assoc, List.cons_append, List.nil_append] at hc'
  simp (maxSteps := 4000000) [hd0, hfr, hout, hcl, hcd, delA_none, ha, ha_n, ha_d, ha_m, e1, outH_setA, hc', mkS]
  try omega

theorem laws_markEngineResult (H : HH) {r q z i f} {rows : List (List Cell)} {pre seg post : List Cell} {k : Int} (ok : okEngineResult 1048576 seg) (hk : 0 ≤ k) (hk2 : k + lvS seg ≤ 4611686018427387904) (ha : arrAt H r q = some (z, rows)) (h0 : r.1 ≠ 0) (hi : rows[i]? = some (pre ++ seg ++ post)) (hf : f = pre.length) : PUpd Tryz.prog 19 [.a (ldcs r q i f seg), I k] H (I (k + lvS seg)) (setA H r q (.own z (rows.set i (pre ++ mkS k seg ++ post)))) := by
  obtain ⟨a0, a1, a2, a3, c4, c5, rfl, lc4, oc4, lc5, oc5⟩ := ok
  have pc4 : ∀ K, CleanRows K c4 := fun K x hx => okTxn_pure (oc4 x hx) K
  have pc5 : ∀ K, CleanRows K c5 := fun K x hx => okRow_pure (oc5 x hx) K
  subst hf
  have hi' : i < rows.length := (List.getElem?_eq_some_iff.1 hi).1
  simp only [lvS] at hk2 ⊢
  simp only [mkS]
  refine PUpd.of [1, 2, 4] Tryz.func19 rfl (by simp [Tryz.f19]) ?_
  intro d hd0 hfr hcl hout
  have hcd : ∀ n q, CleanH (hit [((d, n), q)]) H := fun n q => hcl.at
  have ha_n : ∀ n, ¬ (d, n) = r := fun n => nm_ne (ne_of_arr hfr ha)
  have ha_d : ¬ r.1 = d := ne_of_arr hfr ha
  have ha_m : ∀ n, ¬ r = (d, n) := fun n => nm_ne' (ne_of_arr hfr ha)
  simp (maxSteps := 4000000) [hd0, hfr, hout, hcl, hcd, delA_none, ha, ha_n, ha_d, ha_m, Tryz.f19]
  refine ((show _ from laws_markEngine _ (r := r) (q := q) (i := i) (z := z) (rows := rows) (pre := (pre ++ [.v (.int .i64 a0), .v (.int .i64 a1)])) (seg := [.v (.int .i64 a2), .v (.int .i64 a3), .own 5 c4, .own 2 c5]) (post := post) (k := k) ⟨a2, a3, c4, c5, rfl, lc4, oc4, lc5, oc5⟩ (by omega) (by simp only [lvS]; omega) (by simp (maxSteps := 4000000) [hd0, hfr, hout, hcl, hcd, delA_none, ha, ha_n, ha_d, ha_m]) h0 (by simp [hi]) (by simp))).useCK ?_
  have hc' := CleanH_setA (q := q) (r := r) (c := .own z (rows.set i (pre ++ [.v (.int .i64 a0), .v (.int .i64 a1), .v (.int .i64 a2), .v (.int .i64 a3), .own 5 (mkRs (k) c4), .own 2 (mkRs (k + lvRs c4) c5)] ++ post))) hcl (by
    have h1 := (CleanH_arr hcl ha)
    rw [Clean_ownR] at h1 ⊢
    have h2 := h1 _ (List.mem_of_getElem? hi)
    simp [cells1_append] at h2
    refine (CleanRows_set h1 ?_).2 trivial
    simp [cells1_append, h2, mkRs_clean, pc4, pc5])
  try simp only [List.append_assoc, List.cons_append, List.nil_append] at hc'
  simp (maxSteps := 4000000) [hd0, hfr, hout, hcl, hcd, delA_none, ha, ha_n, ha_d, ha_m, outH_setA, hc', mkS, lvS]
  try omega

theorem laws_szUndoS (H : HH) {r q} {rows : List (List Cell)} {left : Int} (hn : rows.length ≤ 9223372036854775807) (h1 : 0 ≤ left) (h2 : left ≤ 1048576) (ok : ∀ x ∈ rows, okUndo 9223372036854775807 x) : PFun Tryz.prog 169 [.c (.sl r q 4 0 rows.length), I left] H (I (szV (cntC (.own 4 rows)) left)) := by
  rw [cntC_own, cntRs_zero (fun x hx => okUndo_cnt (ok x hx))]
  refine PFun.of [0, 1, 4, 10] Tryz.func169 rfl (by simp [Tryz.f169]) ?_
  intro d hd0 hfr hcl hout
  have hcd : ∀ n q, CleanH (hit [((d, n), q)]) H := fun n q => hcl.at
  simp (maxSteps := 4000000) [hd0, hfr, hout, hcl, hcd, delA_none, Tryz.f169]
  have w : IntKind.i64.wrap (left - rows.length) = left - rows.length := w64 (by omega) (by omega)
  simp (maxSteps := 4000000) [hd0, hfr, hout, hcl, hcd, delA_none, w, szV]
  omega

theorem laws_szTxn (H : HH) {row cs : List Cell} {left : Int} (ok : okTxn 9223372036854775807 row) (hr : Refs H row cs) (h1 : 0 ≤ left) (h2 : left ≤ 1048576) : PFun Tryz.prog 116 [.a cs, I left] H (I (szV (cntR row) left)) := by
  obtain ⟨a0, a1, a2, a3, c4, rfl, lc4, oc4⟩ := ok
  simp only [Refs_v, Refs_own, Refs_nil] at hr
  obtain ⟨_, rfl, _, rfl, _, rfl, _, rfl, rc4, qc4, _, rfl, hc4, rfl⟩ := hr
  simp only [cntR_cons, cntR_nil, cntC_v, cntC_own]
  refine PFun.of [1, 2, 4, 10] Tryz.func116 rfl (by simp [Tryz.f116]) ?_
  intro d hd0 hfr hcl hout
  have hcd : ∀ n q, CleanH (hit [((d, n), q)]) H := fun n q => hcl.at
  have hc4_n : ∀ n, ¬ (d, n) = rc4 := fun n => nm_ne (ne_of_arr hfr hc4)
  have hc4_d : ¬ rc4.1 = d := ne_of_arr hfr hc4
  have hc4_m : ∀ n, ¬ rc4 = (d, n) := fun n => nm_ne' (ne_of_arr hfr hc4)
  simp (maxSteps := 4000000) [hd0, hfr, hout, hcl, hcd, delA_none, hc4, hc4_n, hc4_d, hc4_m, Tryz.f116]
  refine (laws_szUndoS _ lc4 (by omega) (by omega) oc4).useCK ?_
  simp only [cntC_own]
  by_cases k1 : ((c4.length + cntRs c4 : Nat) : Int) ≤ left
  case neg => rw [szV_neg k1]; simp (maxSteps := 4000000) [hd0, hfr, hout, hcl, hcd, delA_none, hc4, hc4_n, hc4_d, hc4_m]; try rw [szV_neg (by omega)]
  rw [szV_pos k1]
  obtain ⟨L1, hL1⟩ : ∃ L : Int, L = left - ((c4.length + cntRs c4 : Nat) : Int) := ⟨_, rfl⟩
  rw [← hL1]
  simp (maxSteps := 4000000) [hd0, hfr, hout, hcl, hcd, delA_none, hc4, hc4_n, hc4_d, hc4_m]
  first | (intro h; omega) | (refine ⟨fun h => by omega, fun _ => ?_⟩; rw [szV_pos (by omega)]; omega)

theorem laws_szTxnS (H : HH) {r q} {rows : List (List Cell)} {left : Int} (hn : rows.length ≤ 9223372036854775807) (h1 : 0 ≤ left) (h2 : left ≤ 1048576) (ok : ∀ x ∈ rows, okTxn 9223372036854775807 x) (ha : arrAt H r q = some (5, rows)) : PFun Tryz.prog 50 [.c (.sl r q 5 0 rows.length), I left] H (I (szV (cntC (.own 5 rows)) left)) := by
  rw [cntC_own]
  refine PFun.of [0, 1, 4, 5, 11, 15, 25] Tryz.func50 rfl (by simp [Tryz.f50]) ?_
  intro d hd0 hfr hcl hout
  have hcd : ∀ n q, CleanH (hit [((d, n), q)]) H := fun n q => hcl.at
  have ha_n : ∀ n, ¬ (d, n) = r := fun n => nm_ne (ne_of_arr hfr ha)
  have ha_d : ¬ r.1 = d := ne_of_arr hfr ha
  have ha_m : ∀ n, ¬ r = (d, n) := fun n => nm_ne' (ne_of_arr hfr ha)
  simp (maxSteps := 4000000) [hd0, hfr, hout, hcl, hcd, delA_none, ha, ha_n, ha_d, ha_m, Tryz.f50]
  have w : IntKind.i64.wrap (left - rows.length) = left - rows.length := w64 (by omega) (by omega)
  simp (maxSteps := 4000000) [hd0, hfr, hout, hcl, hcd, delA_none, ha, ha_n, ha_d, ha_m, w]
  refine ⟨fun h => by rw [szV_neg (by push_cast; omega)], fun h => ?_⟩
  refine LoopK.intro (fun m s => ∃ i : Nat, i + m = rows.length ∧ (rows.length : Int) + cntRs (rows.take i) ≤ left ∧ s = ⟨[(0, .c (.sl r q 5 0 rows.length)), (1, I (left - rows.length - cntRs (rows.take i))), (5, I i)], H, []⟩) (rows.length + 1)
    (LK.intro rows.length [0, 1, 5] [] (by omega) (by decide) (by simp (maxSteps := 4000000) [hd0, hfr, hout, hcl, hcd, delA_none, ha, ha_n, ha_d, ha_m]) ⟨0, by omega, by simp [cntRs]; omega, by simp [cntRs]⟩) ?_
  rintro m s ⟨i, him, hle, rfl⟩
  simp (maxSteps := 4000000) [hd0, hfr, hout, hcl, hcd, delA_none, ha, ha_n, ha_d, ha_m]
  constructor
  · intro hi
    have hi' : i < rows.length := by omega
    have w1 : IntKind.i64.wrap ((i : Int) + 1) = i + 1 := w64 (by omega) (by omega)
    have hx' := ok _ (List.getElem_mem hi')
    have ht := cntRs_take hi'
    have hle2 := cntRs_split (rows := rows) (i := i + 1)
    have hok := hx'
    obtain ⟨a0, a1, a2, a3, c4, hx, lc4, oc4⟩ := hx'
    rw [hx] at hok
    have sc4 := arrAt_sub ha (List.getElem?_eq_getElem hi') (f := 4) (by rw [hx]; rfl)
    simp (maxSteps := 4000000) [hd0, hfr, hout, hcl, hcd, delA_none, ha, ha_n, ha_d, ha_m, hi', hx]
    refine (laws_szTxn _ hok (Refs_v.2 ⟨_, rfl, Refs_v.2 ⟨_, rfl, Refs_v.2 ⟨_, rfl, Refs_v.2 ⟨_, rfl, Refs_own.2 ⟨_, _, _, rfl, by simp (maxSteps := 4000000) [hd0, hfr, hout, hcl, hcd, delA_none, ha, ha_n, ha_d, ha_m, sc4], Refs_nil.2 rfl⟩⟩⟩⟩⟩) (by omega) (by omega)).useCK ?_
    rw [hx] at ht
    by_cases hc : (cntR [.v (.int .i64 a0), .v (.int .i64 a1), .v (.int .i64 a2), .v (.int .i64 a3), .own 4 c4] : Int) ≤ left - rows.length - cntRs (rows.take i)
    · rw [szV_pos hc]
      simp (maxSteps := 4000000) [hd0, hfr, hout, hcl, hcd, delA_none, ha, ha_n, ha_d, ha_m, w1]
      refine ⟨fun h => by omega, fun _ => ?_⟩
      exact LK.intro (m - 1) [0, 1, 5] [] (by omega) (by decide) (by simp (maxSteps := 4000000) [hd0, hfr, hout, hcl, hcd, delA_none, ha, ha_n, ha_d, ha_m]) ⟨i + 1, by omega, by omega, by simp; omega⟩
    · rw [szV_neg hc]
      simp (maxSteps := 4000000) [hd0, hfr, hout, hcl, hcd, delA_none, ha, ha_n, ha_d, ha_m]
      rw [szV_neg (by push_cast; omega)]
  · intro h
    rw [cntRs_all (by omega)] at hle ⊢
    try simp (maxSteps := 4000000) [hd0, hfr, hout, hcl, hcd, delA_none, ha, ha_n, ha_d, ha_m]
    rw [szV_pos (by push_cast; omega)]; push_cast; omega

theorem laws_szVersionS (H : HH) {r q} {rows : List (List Cell)} {left : Int} (hn : rows.length ≤ 9223372036854775807) (h1 : 0 ≤ left) (h2 : left ≤ 1048576) (ok : ∀ x ∈ rows, okVersion 9223372036854775807 x) : PFun Tryz.prog 170 [.c (.sl r q 4 0 rows.length), I left] H (I (szV (cntC (.own 4 rows)) left)) := by
  rw [cntC_own, cntRs_zero (fun x hx => okVersion_cnt (ok x hx))]
  refine PFun.of [0, 1, 4, 10] Tryz.func170 rfl (by simp [Tryz.f170]) ?_
  intro d hd0 hfr hcl hout
  have hcd : ∀ n q, CleanH (hit [((d, n), q)]) H := fun n q => hcl.at
  simp (maxSteps := 4000000) [hd0, hfr, hout, hcl, hcd, delA_none, Tryz.f170]
  have w : IntKind.i64.wrap (left - rows.length) = left - rows.length := w64 (by omega) (by omega)
  simp (maxSteps := 4000000) [hd0, hfr, hout, hcl, hcd, delA_none, w, szV]
  omega

theorem laws_szRow (H : HH) {row cs : List Cell} {left : Int} (ok : okRow 9223372036854775807 row) (hr : Refs H row cs) (h1 : 0 ≤ left) (h2 : left ≤ 1048576) : PFun Tryz.prog 117 [.a cs, I left] H (I (szV (cntR row) left)) := by
  obtain ⟨a0, c1, rfl, lc1, oc1⟩ := ok
  simp only [Refs_v, Refs_own, Refs_nil] at hr
  obtain ⟨_, rfl, rc1, qc1, _, rfl, hc1, rfl⟩ := hr
  simp only [cntR_cons, cntR_nil, cntC_v, cntC_own]
  refine PFun.of [1, 2, 4, 10] Tryz.func117 rfl (by simp [Tryz.f117]) ?_
  intro d hd0 hfr hcl hout
  have hcd : ∀ n q, CleanH (hit [((d, n), q)]) H := fun n q => hcl.at
  have hc1_n : ∀ n, ¬ (d, n) = rc1 := fun n => nm_ne (ne_of_arr hfr hc1)
  have hc1_d : ¬ rc1.1 = d := ne_of_arr hfr hc1
  have hc1_m : ∀ n, ¬ rc1 = (d, n) := fun n => nm_ne' (ne_of_arr hfr hc1)
  simp (maxSteps := 4000000) [hd0, hfr, hout, hcl, hcd, delA_none, hc1, hc1_n, hc1_d, hc1_m, Tryz.f117]
  refine (laws_szVersionS _ lc1 (by omega) (by omega) oc1).useCK ?_
  simp only [cntC_own]
  by_cases k1 : ((c1.length + cntRs c1 : Nat) : Int) ≤ left
  case neg => rw [szV_neg k1]; simp (maxSteps := 4000000) [hd0, hfr, hout, hcl, hcd, delA_none, hc1, hc1_n, hc1_d, hc1_m]; try rw [szV_neg (by omega)]
  rw [szV_pos k1]
  obtain ⟨L1, hL1⟩ : ∃ L : Int, L = left - ((c1.length + cntRs c1 : Nat) : Int) := ⟨_, rfl⟩
  rw [← hL1]
  simp (maxSteps := 4000000) [hd0, hfr, hout, hcl, hcd, delA_none, hc1, hc1_n, hc1_d, hc1_m]
  first | (intro h; omega) | (refine ⟨fun h => by omega, fun _ => ?_⟩; rw [szV_pos (by omega)]; omega)

theorem laws_szRowS (H : HH) {r q} {rows : List (List Cell)} {left : Int} (hn : rows.length ≤ 9223372036854775807) (h1 : 0 ≤ left) (h2 : left ≤ 1048576) (ok : ∀ x ∈ rows, okRow 9223372036854775807 x) (ha : arrAt H r q = some (2, rows)) : PFun Tryz.prog 51 [.c (.sl r q 2 0 rows.length), I left] H (I (szV (cntC (.own 2 rows)) left)) := by
  rw [cntC_own]
  refine PFun.of [0, 1, 4, 5, 11, 15, 25] Tryz.func51 rfl (by simp [Tryz.f51]) ?_
  intro d hd0 hfr hcl hout
  have hcd : ∀ n q, CleanH (hit [((d, n), q)]) H := fun n q => hcl.at
  have ha_n : ∀ n, ¬ (d, n) = r := fun n => nm_ne (ne_of_arr hfr ha)
  have ha_d : ¬ r.1 = d := ne_of_arr hfr ha
  have ha_m : ∀ n, ¬ r = (d, n) := fun n => nm_ne' (ne_of_arr hfr ha)
  simp (maxSteps := 4000000) [hd0, hfr, hout, hcl, hcd, delA_none, ha, ha_n, ha_d, ha_m, Tryz.f51]
  have w : IntKind.i64.wrap (left - rows.length) = left - rows.length := w64 (by omega) (by omega)
  simp (maxSteps := 4000000) [hd0, hfr, hout, hcl, hcd, delA_none, ha, ha_n, ha_d, ha_m, w]
  refine ⟨fun h => by rw [szV_neg (by push_cast; omega)], fun h => ?_⟩
  refine LoopK.intro (fun m s => ∃ i : Nat, i + m = rows.length ∧ (rows.length : Int) + cntRs (rows.take i) ≤ left ∧ s = ⟨[(0, .c (.sl r q 2 0 rows.length)), (1, I (left - rows.length - cntRs (rows.take i))), (5, I i)], H, []⟩) (rows.length + 1)
    (LK.intro rows.length [0, 1, 5] [] (by omega) (by decide) (by simp (maxSteps := 4000000) [hd0, hfr, hout, hcl, hcd, delA_none, ha, ha_n, ha_d, ha_m]) ⟨0, by omega, by simp [cntRs]; omega, by simp [cntRs]⟩) ?_
  rintro m s ⟨i, him, hle, rfl⟩
  simp (maxSteps := 4000000) [hd0, hfr, hout, hcl, hcd, delA_none, ha, ha_n, ha_d, ha_m]
  constructor
  · intro hi
    have hi' : i < rows.length := by omega
    have w1 : IntKind.i64.wrap ((i : Int) + 1) = i + 1 := w64 (by omega) (by omega)
    have hx' := ok _ (List.getElem_mem hi')
    have ht := cntRs_take hi'
    have hle2 := cntRs_split (rows := rows) (i := i + 1)
    have hok := hx'
    obtain ⟨a0, c1, hx, lc1, oc1⟩ := hx'
    rw [hx] at hok
    have sc1 := arrAt_sub ha (List.getElem?_eq_getElem hi') (f := 1) (by rw [hx]; rfl)
    simp (maxSteps := 4000000) [hd0, hfr, hout, hcl, hcd, delA_none, ha, ha_n, ha_d, ha_m, hi', hx]
    refine (laws_szRow _ hok (Refs_v.2 ⟨_, rfl, Refs_own.2 ⟨_, _, _, rfl, by simp (maxSteps := 4000000) [hd0, hfr, hout, hcl, hcd, delA_none, ha, ha_n, ha_d, ha_m, sc1], Refs_nil.2 rfl⟩⟩) (by omega) (by omega)).useCK ?_
    rw [hx] at ht
    by_cases hc : (cntR [.v (.int .i64 a0), .own 4 c1] : Int) ≤ left - rows.length - cntRs (rows.take i)
    · rw [szV_pos hc]
      simp (maxSteps := 4000000) [hd0, hfr, hout, hcl, hcd, delA_none, ha, ha_n, ha_d, ha_m, w1]
      refine ⟨fun h => by omega, fun _ => ?_⟩
      exact LK.intro (m - 1) [0, 1, 5] [] (by omega) (by decide) (by simp (maxSteps := 4000000) [hd0, hfr, hout, hcl, hcd, delA_none, ha, ha_n, ha_d, ha_m]) ⟨i + 1, by omega, by omega, by simp; omega⟩
    · rw [szV_neg hc]
      simp (maxSteps := 4000000) [hd0, hfr, hout, hcl, hcd, delA_none, ha, ha_n, ha_d, ha_m]
      rw [szV_neg (by push_cast; omega)]
  · intro h
    rw [cntRs_all (by omega)] at hle ⊢
    try simp (maxSteps := 4000000) [hd0, hfr, hout, hcl, hcd, delA_none, ha, ha_n, ha_d, ha_m]
    rw [szV_pos (by push_cast; omega)]; push_cast; omega

theorem laws_szEngine (H : HH) {row cs : List Cell} {left : Int} (ok : okEngine 9223372036854775807 row) (hr : Refs H row cs) (h1 : 0 ≤ left) (h2 : left ≤ 1048576) : PFun Tryz.prog 12 [.a cs, I left] H (I (szV (cntR row) left)) := by
  obtain ⟨a0, a1, c2, c3, rfl, lc2, oc2, lc3, oc3⟩ := ok
  simp only [Refs_v, Refs_own, Refs_nil] at hr
  obtain ⟨_, rfl, _, rfl, rc2, qc2, _, rfl, hc2, rc3, qc3, _, rfl, hc3, rfl⟩ := hr
  simp only [cntR_cons, cntR_nil, cntC_v, cntC_own]
  refine PFun.of [1, 2, 4, 10, 16] Tryz.func12 rfl (by simp [Tryz.f12]) ?_
  intro d hd0 hfr hcl hout
  have hcd : ∀ n q, CleanH (hit [((d, n), q)]) H := fun n q => hcl.at
  have hc2_n : ∀ n, ¬ (d, n) = rc2 := fun n => nm_ne (ne_of_arr hfr hc2)
  have hc2_d : ¬ rc2.1 = d := ne_of_arr hfr hc2
  have hc2_m : ∀ n, ¬ rc2 = (d, n) := fun n => nm_ne' (ne_of_arr hfr hc2)
  have hc3_n : ∀ n, ¬ (d, n) = rc3 := fun n => nm_ne (ne_of_arr hfr hc3)
  have hc3_d : ¬ rc3.1 = d := ne_of_arr hfr hc3
  have hc3_m : ∀ n, ¬ rc3 = (d, n) := fun n => nm_ne' (ne_of_arr hfr hc3)
  simp (maxSteps := 4000000) [hd0, hfr, hout, hcl, hcd, delA_none, hc2, hc2_n, hc2_d, hc2_m, hc3, hc3_n, hc3_d, hc3_m, Tryz.f12]
  refine (laws_szTxnS _ lc2 (by omega) (by omega) oc2 (by simp (maxSteps := 4000000) [hd0, hfr, hout, hcl, hcd, delA_none, hc2, hc2_n, hc2_d, hc2_m, hc3, hc3_n, hc3_d, hc3_m])).useCK ?_
  simp only [cntC_own]
  by_cases k1 : ((c2.length + cntRs c2 : Nat) : Int) ≤ left
  case neg => rw [szV_neg k1]; simp (maxSteps := 4000000) [hd0, hfr, hout, hcl, hcd, delA_none, hc2, hc2_n, hc2_d, hc2_m, hc3, hc3_n, hc3_d, hc3_m]; try rw [szV_neg (by omega)]
  rw [szV_pos k1]
  obtain ⟨L1, hL1⟩ : ∃ L : Int, L = left - ((c2.length + cntRs c2 : Nat) : Int) := ⟨_, rfl⟩
  rw [← hL1]
  simp (maxSteps := 4000000) [hd0, hfr, hout, hcl, hcd, delA_none, hc2, hc2_n, hc2_d, hc2_m, hc3, hc3_n, hc3_d, hc3_m]
  refine ⟨fun h => by omega, fun _ => ?_⟩
  refine (laws_szRowS _ lc3 (by omega) (by omega) oc3 (by simp (maxSteps := 4000000) [hd0, hfr, hout, hcl, hcd, delA_none, hc2, hc2_n, hc2_d, hc2_m, hc3, hc3_n, hc3_d, hc3_m])).useCK ?_
  simp only [cntC_own]
  by_cases k2 : ((c3.length + cntRs c3 : Nat) : Int) ≤ L1
  case neg => rw [szV_neg k2]; simp (maxSteps := 4000000) [hd0, hfr, hout, hcl, hcd, delA_none, hc2, hc2_n, hc2_d, hc2_m, hc3, hc3_n, hc3_d, hc3_m]; try rw [szV_neg (by omega)]
  rw [szV_pos k2]
  obtain ⟨L2, hL2⟩ : ∃ L : Int, L = L1 - ((c3.length + cntRs c3 : Nat) : Int) := ⟨_, rfl⟩
  rw [← hL2]
  simp (maxSteps := 4000000) [hd0, hfr, hout, hcl, hcd, delA_none, hc2, hc2_n, hc2_d, hc2_m, hc3, hc3_n, hc3_d, hc3_m]
  first | (intro h; omega) | (refine ⟨fun h => by omega, fun _ => ?_⟩; rw [szV_pos (by omega)]; omega)

theorem laws_toUndo (H : HH) {row cs : List Cell} (ok : okUndo 1048576 row) (hr : Refs H row cs) : PFun Tryz.prog 200 [.a cs] H (.a row) := by
  obtain ⟨a0, a1, a2, a3, rfl⟩ := ok
  simp only [Refs_v, Refs_own, Refs_nil] at hr
  obtain ⟨_, rfl, _, rfl, _, rfl, _, rfl, rfl⟩ := hr
  refine PFun.of [1, 2, 3] Tryz.func200 rfl (by simp [Tryz.f200]) ?_
  intro d hd0 hfr hcl hout
  have hcd : ∀ n q, CleanH (hit [((d, n), q)]) H := fun n q => hcl.at
  simp (maxSteps := 4000000) [hd0, hfr, hout, hcl, hcd, delA_none, Tryz.f200]

theorem laws_toUndoS (H : HH) {r q} {rows : List (List Cell)} (hb : rows.length ≤ 1048576) (ok : ∀ x ∈ rows, okUndo 1048576 x) (ha : arrAt H r q = some (4, rows)) : PFun Tryz.prog 171 [.c (.sl r q 4 0 rows.length)] H (.c (.own 4 rows)) := by
  refine PFun.of [0, 2, 3, 4, 11] Tryz.func171 rfl (by simp [Tryz.f171]) ?_
  intro d hd0 hfr hcl hout
  have hcd : ∀ n q, CleanH (hit [((d, n), q)]) H := fun n q => hcl.at
  have ha_n : ∀ n, ¬ (d, n) = r := fun n => nm_ne (ne_of_arr hfr ha)
  have ha_d : ¬ r.1 = d := ne_of_arr hfr ha
  have ha_m : ∀ n, ¬ r = (d, n) := fun n => nm_ne' (ne_of_arr hfr ha)
  simp (maxSteps := 4000000) [hd0, hfr, hout, hcl, hcd, delA_none, ha, ha_n, ha_d, ha_m, Tryz.f171]
  have hp : ∀ K, CleanRows K rows := fun K x hx => okUndo_pure (ok x hx) K
  refine ⟨by omega, ?_⟩
  refine LoopK.intro (fun m s => ∃ i : Nat, i + m = rows.length ∧ s = ⟨[(0, .c (.sl r q 4 0 rows.length)), (3, .c (.sl (d, 3) [] 4 0 rows.length)), (4, I i)], ((d, 3), .own 4 (upTo [.v (.int .i64 0), .v (.bool false), .v (.bool false), .v (.int .i64 0)] rows i)) :: H, []⟩) (rows.length + 1)
    (LK.intro rows.length [0, 3, 4] [2] (by omega) (by decide) (by simp (maxSteps := 4000000) [hd0, hfr, hout, hcl, hcd, delA_none, ha, ha_n, ha_d, ha_m]) ⟨0, by simp [upTo_zero]⟩) ?_
  rintro m s ⟨i, him, rfl⟩
  simp (maxSteps := 4000000) [hd0, hfr, hout, hcl, hcd, delA_none, ha, ha_n, ha_d, ha_m]
  constructor
  · intro hi
    have hi' : i < rows.length := by omega
    have w1 : IntKind.i64.wrap ((i : Int) + 1) = i + 1 := w64 (by omega) (by omega)
    have hok := ok _ (List.getElem_mem hi')
    have hs := upTo_set (r := [.v (.int .i64 0), .v (.bool false), .v (.bool false), .v (.int .i64 0)]) hi'
    have hat := upTo_at (r := [.v (.int .i64 0), .v (.bool false), .v (.bool false), .v (.int .i64 0)]) hi'
    have hatx := ix_of hat
    have hok' := hok
    obtain ⟨a0, a1, a2, a3, hx⟩ := hok
    rw [hx] at hok' hs
    simp (maxSteps := 4000000) [hd0, hfr, hout, hcl, hcd, delA_none, ha, ha_n, ha_d, ha_m, hi', hx]
    refine (laws_toUndo _ hok' (Refs_v.2 ⟨_, rfl, Refs_v.2 ⟨_, rfl, Refs_v.2 ⟨_, rfl, Refs_v.2 ⟨_, rfl, Refs_nil.2 rfl⟩⟩⟩⟩)).useCK ?_
    simp (maxSteps := 4000000) [hd0, hfr, hout, hcl, hcd, delA_none, ha, ha_n, ha_d, ha_m, hi', hx, hatx, upTo_length, w1, hs, hp, CleanRows_upTo]
    exact LK.intro (m - 1) [0, 3, 4] [] (by omega) (by decide) (by simp (maxSteps := 4000000) [hd0, hfr, hout, hcl, hcd, delA_none, ha, ha_n, ha_d, ha_m]) ⟨i + 1, by omega, by simp [hs]⟩
  · intro h
    simp (maxSteps := 4000000) [hd0, hfr, hout, hcl, hcd, delA_none, ha, ha_n, ha_d, ha_m, upTo_all h, hp]

theorem laws_toTxn (H : HH) {row cs : List Cell} (ok : okTxn 1048576 row) (hr : Refs H row cs) : PFun Tryz.prog 122 [.a cs] H (.a row) := by
  obtain ⟨a0, a1, a2, a3, c4, rfl, lc4, oc4⟩ := ok
  simp only [Refs_v, Refs_own, Refs_nil] at hr
  obtain ⟨_, rfl, _, rfl, _, rfl, _, rfl, rc4, qc4, _, rfl, hc4, rfl⟩ := hr
  have pc4 : ∀ K, CleanRows K c4 := fun K x hx => okUndo_pure (oc4 x hx) K
  refine PFun.of [1, 2, 3] Tryz.func122 rfl (by simp [Tryz.f122]) ?_
  intro d hd0 hfr hcl hout
  have hcd : ∀ n q, CleanH (hit [((d, n), q)]) H := fun n q => hcl.at
  have hc4_n : ∀ n, ¬ (d, n) = rc4 := fun n => nm_ne (ne_of_arr hfr hc4)
  have hc4_d : ¬ rc4.1 = d := ne_of_arr hfr hc4
  have hc4_m : ∀ n, ¬ rc4 = (d, n) := fun n => nm_ne' (ne_of_arr hfr hc4)
  simp (maxSteps := 4000000) [hd0, hfr, hout, hcl, hcd, delA_none, hc4, hc4_n, hc4_d, hc4_m, Tryz.f122]
  refine (laws_toUndoS _ lc4 oc4 (by simp (maxSteps := 4000000) [hd0, hfr, hout, hcl, hcd, delA_none, hc4, hc4_n, hc4_d, hc4_m])).useCK ?_
  simp (maxSteps := 4000000) [hd0, hfr, hout, hcl, hcd, delA_none, hc4, hc4_n, hc4_d, hc4_m, pc4]

theorem laws_toTxnS (H : HH) {r q} {rows : List (List Cell)} (hb : rows.length ≤ 1048576) (ok : ∀ x ∈ rows, okTxn 1048576 x) (ha : arrAt H r q = some (5, rows)) : PFun Tryz.prog 56 [.c (.sl r q 5 0 rows.length)] H (.c (.own 5 rows)) := by
  refine PFun.of [0, 2, 3, 4, 11] Tryz.func56 rfl (by simp [Tryz.f56]) ?_
  intro d hd0 hfr hcl hout
  have hcd : ∀ n q, CleanH (hit [((d, n), q)]) H := fun n q => hcl.at
  have ha_n : ∀ n, ¬ (d, n) = r := fun n => nm_ne (ne_of_arr hfr ha)
  have ha_d : ¬ r.1 = d := ne_of_arr hfr ha
  have ha_m : ∀ n, ¬ r = (d, n) := fun n => nm_ne' (ne_of_arr hfr ha)
  simp (maxSteps := 4000000) [hd0, hfr, hout, hcl, hcd, delA_none, ha, ha_n, ha_d, ha_m, Tryz.f56]
  have hp : ∀ K, CleanRows K rows := fun K x hx => okTxn_pure (ok x hx) K
  refine ⟨by omega, ?_⟩
  refine LoopK.intro (fun m s => ∃ i : Nat, i + m = rows.length ∧ s = ⟨[(0, .c (.sl r q 5 0 rows.length)), (3, .c (.sl (d, 3) [] 5 0 rows.length)), (4, I i)], ((d, 3), .own 5 (upTo [.v (.int .i64 0), .v (.int .i64 0), .v (.int .i64 0), .v (.int .i64 0), .own 4 []] rows i)) :: H, []⟩) (rows.length + 1)
    (LK.intro rows.length [0, 3, 4] [2] (by omega) (by decide) (by simp (maxSteps := 4000000) [hd0, hfr, hout, hcl, hcd, delA_none, ha, ha_n, ha_d, ha_m]) ⟨0, by simp [upTo_zero]⟩) ?_
  rintro m s ⟨i, him, rfl⟩
  simp (maxSteps := 4000000) [hd0, hfr, hout, hcl, hcd, delA_none, ha, ha_n, ha_d, ha_m]
  constructor
  · intro hi
    have hi' : i < rows.length := by omega
    have w1 : IntKind.i64.wrap ((i : Int) + 1) = i + 1 := w64 (by omega) (by omega)
    have hok := ok _ (List.getElem_mem hi')
    have hs := upTo_set (r := [.v (.int .i64 0), .v (.int .i64 0), .v (.int .i64 0), .v (.int .i64 0), .own 4 []]) hi'
    have hat := upTo_at (r := [.v (.int .i64 0), .v (.int .i64 0), .v (.int .i64 0), .v (.int .i64 0), .own 4 []]) hi'
    have hatx := ix_of hat
    have hok' := hok
    obtain ⟨a0, a1, a2, a3, c4, hx, lc4, oc4⟩ := hok
    rw [hx] at hok' hs
    have pc4 : ∀ K, CleanRows K c4 := fun K x hx => okUndo_pure (oc4 x hx) K
    have sc4 := arrAt_sub ha (List.getElem?_eq_getElem hi') (f := 4) (by rw [hx]; rfl)
    simp (maxSteps := 4000000) [hd0, hfr, hout, hcl, hcd, delA_none, ha, ha_n, ha_d, ha_m, hi', hx]
    refine (laws_toTxn _ hok' (Refs_v.2 ⟨_, rfl, Refs_v.2 ⟨_, rfl, Refs_v.2 ⟨_, rfl, Refs_v.2 ⟨_, rfl, Refs_own.2 ⟨_, _, _, rfl, by simp (maxSteps := 4000000) [hd0, hfr, hout, hcl, hcd, delA_none, ha, ha_n, ha_d, ha_m, sc4], Refs_nil.2 rfl⟩⟩⟩⟩⟩)).useCK ?_
    simp (maxSteps := 4000000) [hd0, hfr, hout, hcl, hcd, delA_none, ha, ha_n, ha_d, ha_m, hi', hx, hatx, upTo_length, w1, hs, hp, CleanRows_upTo, pc4]
    exact LK.intro (m - 1) [0, 3, 4] [] (by omega) (by decide) (by simp (maxSteps := 4000000) [hd0, hfr, hout, hcl, hcd, delA_none, ha, ha_n, ha_d, ha_m]) ⟨i + 1, by omega, by simp [hs]⟩
  · intro h
    simp (maxSteps := 4000000) [hd0, hfr, hout, hcl, hcd, delA_none, ha, ha_n, ha_d, ha_m, upTo_all h, hp]

theorem laws_toVersion (H : HH) {row cs : List Cell} (ok : okVersion 1048576 row) (hr : Refs H row cs) : PFun Tryz.prog 201 [.a cs] H (.a row) := by
  obtain ⟨a0, a1, a2, a3, rfl⟩ := ok
  simp only [Refs_v, Refs_own, Refs_nil] at hr
  obtain ⟨_, rfl, _, rfl, _, rfl, _, rfl, rfl⟩ := hr
  refine PFun.of [1, 2, 3] Tryz.func201 rfl (by simp [Tryz.f201]) ?_
  intro d hd0 hfr hcl hout
  have hcd : ∀ n q, CleanH (hit [((d, n), q)]) H := fun n q => hcl.at
  simp (maxSteps := 4000000) [hd0, hfr, hout, hcl, hcd, delA_none, Tryz.f201]

theorem laws_toVersionS (H : HH) {r q} {rows : List (List Cell)} (hb : rows.length ≤ 1048576) (ok : ∀ x ∈ rows, okVersion 1048576 x) (ha : arrAt H r q = some (4, rows)) : PFun Tryz.prog 172 [.c (.sl r q 4 0 rows.length)] H (.c (.own 4 rows)) := by
  refine PFun.of [0, 2, 3, 4, 11] Tryz.func172 rfl (by simp [Tryz.f172]) ?_
  intro d hd0 hfr hcl hout
  have hcd : ∀ n q, CleanH (hit [((d, n), q)]) H := fun n q => hcl.at
  have ha_n : ∀ n, ¬ (d, n) = r := fun n => nm_ne (ne_of_arr hfr ha)
  have ha_d : ¬ r.1 = d := ne_of_arr hfr ha
  have ha_m : ∀ n, ¬ r = (d, n) := fun n => nm_ne' (ne_of_arr hfr ha)
  simp (maxSteps := 4000000) [hd0, hfr, hout, hcl, hcd, delA_none, ha, ha_n, ha_d, ha_m, Tryz.f172]
  have hp : ∀ K, CleanRows K rows := fun K x hx => okVersion_pure (ok x hx) K
  refine ⟨by omega, ?_⟩
  refine LoopK.intro (fun m s => ∃ i : Nat, i + m = rows.length ∧ s = ⟨[(0, .c (.sl r q 4 0 rows.length)), (3, .c (.sl (d, 3) [] 4 0 rows.length)), (4, I i)], ((d, 3), .own 4 (upTo [.v (.int .i64 0), .v (.int .i64 0), .v (.bool false), .v (.int .i64 0)] rows i)) :: H, []⟩) (rows.length + 1)
    (LK.intro rows.length [0, 3, 4] [2] (by omega) (by decide) (by simp (maxSteps := 4000000) [hd0, hfr, hout, hcl, hcd, delA_none, ha, ha_n, ha_d, ha_m]) ⟨0, by simp [upTo_zero]⟩) ?_
  rintro m s ⟨i, him, rfl⟩
  simp (maxSteps := 4000000) [hd0, hfr, hout, hcl, hcd, delA_none, ha, ha_n, ha_d, ha_m]
  constructor
  · intro hi
    have hi' : i < rows.length := by omega
    have w1 : IntKind.i64.wrap ((i : Int) + 1) = i + 1 := w64 (by omega) (by omega)
    have hok := ok _ (List.getElem_mem hi')
    have hs := upTo_set (r := [.v (.int .i64 0), .v (.int .i64 0), .v (.bool false), .v (.int .i64 0)]) hi'
    have hat := upTo_at (r := [.v (.int .i64 0), .v (.int .i64 0), .v (.bool false), .v (.int .i64 0)]) hi'
    have hatx := ix_of hat
    have hok' := hok
    obtain ⟨a0, a1, a2, a3, hx⟩ := hok
    rw [hx] at hok' hs
    simp (maxSteps := 4000000) [hd0, hfr, hout, hcl, hcd, delA_none, ha, ha_n, ha_d, ha_m, hi', hx]
    refine (laws_toVersion _ hok' (Refs_v.2 ⟨_, rfl, Refs_v.2 ⟨_, rfl, Refs_v.2 ⟨_, rfl, Refs_v.2 ⟨_, rfl, Refs_nil.2 rfl⟩⟩⟩⟩)).useCK ?_
    simp (maxSteps := 4000000) [hd0, hfr, hout, hcl, hcd, delA_none, ha, ha_n, ha_d, ha_m, hi', hx, hatx, upTo_length, w1, hs, hp, CleanRows_upTo]
    exact LK.intro (m - 1) [0, 3, 4] [] (by omega) (by decide) (by simp (maxSteps := 4000000) [hd0, hfr, hout, hcl, hcd, delA_none, ha, ha_n, ha_d, ha_m]) ⟨i + 1, by omega, by simp [hs]⟩
  · intro h
    simp (maxSteps := 4000000) [hd0, hfr, hout, hcl, hcd, delA_none, ha, ha_n, ha_d, ha_m, upTo_all h, hp]

theorem laws_toRow (H : HH) {row cs : List Cell} (ok : okRow 1048576 row) (hr : Refs H row cs) : PFun Tryz.prog 123 [.a cs] H (.a row) := by
  obtain ⟨a0, c1, rfl, lc1, oc1⟩ := ok
  simp only [Refs_v, Refs_own, Refs_nil] at hr
  obtain ⟨_, rfl, rc1, qc1, _, rfl, hc1, rfl⟩ := hr
  have pc1 : ∀ K, CleanRows K c1 := fun K x hx => okVersion_pure (oc1 x hx) K
  refine PFun.of [1, 2, 3] Tryz.func123 rfl (by simp [Tryz.f123]) ?_
  intro d hd0 hfr hcl hout
  have hcd : ∀ n q, CleanH (hit [((d, n), q)]) H := fun n q => hcl.at
  have hc1_n : ∀ n, ¬ (d, n) = rc1 := fun n => nm_ne (ne_of_arr hfr hc1)
  have hc1_d : ¬ rc1.1 = d := ne_of_arr hfr hc1
  have hc1_m : ∀ n, ¬ rc1 = (d, n) := fun n => nm_ne' (ne_of_arr hfr hc1)
  simp (maxSteps := 4000000) [hd0, hfr, hout, hcl, hcd, delA_none, hc1, hc1_n, hc1_d, hc1_m, Tryz.f123]
  refine (laws_toVersionS _ lc1 oc1 (by simp (maxSteps := 4000000) [hd0, hfr, hout, hcl, hcd, delA_none, hc1, hc1_n, hc1_d, hc1_m])).useCK ?_
  simp (maxSteps := 4000000) [hd0, hfr, hout, hcl, hcd, delA_none, hc1, hc1_n, hc1_d, hc1_m, pc1]

theorem laws_toRowS (H : HH) {r q} {rows : List (List Cell)} (hb : rows.length ≤ 1048576) (ok : ∀ x ∈ rows, okRow 1048576 x) (ha : arrAt H r q = some (2, rows)) : PFun Tryz.prog 57 [.c (.sl r q 2 0 rows.length)] H (.c (.own 2 rows)) := by
  refine PFun.of [0, 2, 3, 4, 11] Tryz.func57 rfl (by simp [Tryz.f57]) ?_
  intro d hd0 hfr hcl hout
  have hcd : ∀ n q, CleanH (hit [((d, n), q)]) H := fun n q => hcl.at
  have ha_n : ∀ n, ¬ (d, n) = r := fun n => nm_ne (ne_of_arr hfr ha)
  have ha_d : ¬ r.1 = d := ne_of_arr hfr ha
  have ha_m : ∀ n, ¬ r = (d, n) := fun n => nm_ne' (ne_of_arr hfr ha)
  simp (maxSteps := 4000000) [hd0, hfr, hout, hcl, hcd, delA_none, ha, ha_n, ha_d, ha_m, Tryz.f57]
  have hp : ∀ K, CleanRows K rows := fun K x hx => okRow_pure (ok x hx) K
  refine ⟨by omega, ?_⟩
  refine LoopK.intro (fun m s => ∃ i : Nat, i + m = rows.length ∧ s = ⟨[(0, .c (.sl r q 2 0 rows.length)), (3, .c (.sl (d, 3) [] 2 0 rows.length)), (4, I i)], ((d, 3), .own 2 (upTo [.v (.int .i64 0), .own 4 []] rows i)) :: H, []⟩) (rows.length + 1)
    (LK.intro rows.length [0, 3, 4] [2] (by omega) (by decide) (by simp (maxSteps := 4000000) [hd0, hfr, hout, hcl, hcd, delA_none, ha, ha_n, ha_d, ha_m]) ⟨0, by simp [upTo_zero]⟩) ?_
  rintro m s ⟨i, him, rfl⟩
  simp (maxSteps := 4000000) [hd0, hfr, hout, hcl, hcd, delA_none, ha, ha_n, ha_d, ha_m]
  constructor
  · intro hi
    have hi' : i < rows.length := by omega
    have w1 : IntKind.i64.wrap ((i : Int) + 1) = i + 1 := w64 (by omega) (by omega)
    have hok := ok _ (List.getElem_mem hi')
    have hs := upTo_set (r := [.v (.int .i64 0), .own 4 []]) hi'
    have hat := upTo_at (r := [.v (.int .i64 0), .own 4 []]) hi'
    have hatx := ix_of hat
    have hok' := hok
    obtain ⟨a0, c1, hx, lc1, oc1⟩ := hok
    rw [hx] at hok' hs
    have pc1 : ∀ K, CleanRows K c1 := fun K x hx => okVersion_pure (oc1 x hx) K
    have sc1 := arrAt_sub ha (List.getElem?_eq_getElem hi') (f := 1) (by rw [hx]; rfl)
    simp (maxSteps := 4000000) [hd0, hfr, hout, hcl, hcd, delA_none, ha, ha_n, ha_d, ha_m, hi', hx]
    refine (laws_toRow _ hok' (Refs_v.2 ⟨_, rfl, Refs_own.2 ⟨_, _, _, rfl, by simp (maxSteps := 4000000) [hd0, hfr, hout, hcl, hcd, delA_none, ha, ha_n, ha_d, ha_m, sc1], Refs_nil.2 rfl⟩⟩)).useCK ?_
    simp (maxSteps := 4000000) [hd0, hfr, hout, hcl, hcd, delA_none, ha, ha_n, ha_d, ha_m, hi', hx, hatx, upTo_length, w1, hs, hp, CleanRows_upTo, pc1]
    exact LK.intro (m - 1) [0, 3, 4] [] (by omega) (by decide) (by simp (maxSteps := 4000000) [hd0, hfr, hout, hcl, hcd, delA_none, ha, ha_n, ha_d, ha_m]) ⟨i + 1, by omega, by simp [hs]⟩
  · intro h
    simp (maxSteps := 4000000) [hd0, hfr, hout, hcl, hcd, delA_none, ha, ha_n, ha_d, ha_m, upTo_all h, hp]

theorem laws_toEngine (H : HH) {row cs : List Cell} (ok : okEngine 1048576 row) (hr : Refs H row cs) : PFun Tryz.prog 14 [.a cs] H (.a row) := by
  obtain ⟨a0, a1, c2, c3, rfl, lc2, oc2, lc3, oc3⟩ := ok
  simp only [Refs_v, Refs_own, Refs_nil] at hr
  obtain ⟨_, rfl, _, rfl, rc2, qc2, _, rfl, hc2, rc3, qc3, _, rfl, hc3, rfl⟩ := hr
  have pc2 : ∀ K, CleanRows K c2 := fun K x hx => okTxn_pure (oc2 x hx) K
  have pc3 : ∀ K, CleanRows K c3 := fun K x hx => okRow_pure (oc3 x hx) K
  refine PFun.of [1, 2, 3] Tryz.func14 rfl (by simp [Tryz.f14]) ?_
  intro d hd0 hfr hcl hout
  have hcd : ∀ n q, CleanH (hit [((d, n), q)]) H := fun n q => hcl.at
  have hc2_n : ∀ n, ¬ (d, n) = rc2 := fun n => nm_ne (ne_of_arr hfr hc2)
  have hc2_d : ¬ rc2.1 = d := ne_of_arr hfr hc2
  have hc2_m : ∀ n, ¬ rc2 = (d, n) := fun n => nm_ne' (ne_of_arr hfr hc2)
  have hc3_n : ∀ n, ¬ (d, n) = rc3 := fun n => nm_ne (ne_of_arr hfr hc3)
  have hc3_d : ¬ rc3.1 = d := ne_of_arr hfr hc3
  have hc3_m : ∀ n, ¬ rc3 = (d, n) := fun n => nm_ne' (ne_of_arr hfr hc3)
  simp (maxSteps := 4000000) [hd0, hfr, hout, hcl, hcd, delA_none, hc2, hc2_n, hc2_d, hc2_m, hc3, hc3_n, hc3_d, hc3_m, Tryz.f14]
  refine (laws_toTxnS _ lc2 oc2 (by simp (maxSteps := 4000000) [hd0, hfr, hout, hcl, hcd, delA_none, hc2, hc2_n, hc2_d, hc2_m, hc3, hc3_n, hc3_d, hc3_m])).useCK ?_
  simp (maxSteps := 4000000) [hd0, hfr, hout, hcl, hcd, delA_none, hc2, hc2_n, hc2_d, hc2_m, hc3, hc3_n, hc3_d, hc3_m, pc2, pc3]
  refine (laws_toRowS _ lc3 oc3 (by simp (maxSteps := 4000000) [hd0, hfr, hout, hcl, hcd, delA_none, hc2, hc2_n, hc2_d, hc2_m, hc3, hc3_n, hc3_d, hc3_m])).useCK ?_
  simp (maxSteps := 4000000) [hd0, hfr, hout, hcl, hcd, delA_none, hc2, hc2_n, hc2_d, hc2_m, hc3, hc3_n, hc3_d, hc3_m, pc2, pc3]

end Go.Proofs.YtnlbjfdmjlnlgaaGreat


namespace Go.Px
set_option linter.unusedVariables false
def encI (n : Int) : List Cell := [.v (.int .i64 n)]
def encU8 (n : Int) : List Cell := [.v (.int .u8 n)]
def encB (n : Bool) : List Cell := [.v (.bool n)]
def encS {α : Type} (z : Nat) (e : α → List Cell) (l : List α) : List Cell := [.own z (l.map e)]
section
variable {K : Cell → Prop} {n : Int} {b : Bool} {α : Type} {z : Nat} {e : α → List Cell} {l : List α}
@[simp] theorem encI_clean : cells1 K (encI n) ↔ True := by simp [encI, Clean.v]
@[simp] theorem encU8_clean : cells1 K (encU8 n) ↔ True := by simp [encU8, Clean.v]
@[simp] theorem encB_clean : cells1 K (encB b) ↔ True := by simp [encB, Clean.v]
@[simp] theorem encS_clean : cells1 K (encS z e l) ↔ ∀ x ∈ l, cells1 K (e x) := by simp [encS]
end
end Go.Px


namespace Go.Proofs.YtnlbjfdmjlnlgaaGreat
open Go Go.Px Go.RowKit Go.Proofs
set_option linter.unnecessarySimpa false
set_option linter.unusedVariables false
set_option linter.unusedSimpArgs false
set_option maxRecDepth 100000
set_option maxHeartbeats 1000000
attribute [-simp] Int.not_le Int.not_lt
structure DUndo where
  key : Int
  had : Bool
  gone : Bool
  value : Int
def DUndo.enc (x : DUndo) : List Cell := [.v (.int .i64 x.key), .v (.bool x.had), .v (.bool x.gone), .v (.int .i64 x.value)]
@[simp] theorem DUndo.pure (x : DUndo) : ∀ K, cells1 K x.enc := by intro K; simp [DUndo.enc, Clean.v]
def DUndo.wf (x : DUndo) : Prop := (Lit.int .i64 x.key).wf = true ∧ True ∧ True ∧ (Lit.int .i64 x.value).wf = true
theorem DUndo.ok (B : Nat) (x : DUndo) : okUndo B x.enc := ⟨x.key, x.had, x.gone, x.value, rfl⟩
structure DTxn where
  id_ : Int
  at_ : Int
  state : Int
  done : Int
  undos : List (DUndo)
def DTxn.enc (x : DTxn) : List Cell := [.v (.int .i64 x.id_), .v (.int .i64 x.at_), .v (.int .i64 x.state), .v (.int .i64 x.done), .own 4 (x.undos.map DUndo.enc)]
@[simp] theorem DTxn.pure (x : DTxn) : ∀ K, cells1 K x.enc := by intro K; simp [DTxn.enc, Clean.v, DUndo.pure]
def DTxn.wf (x : DTxn) : Prop := (Lit.int .i64 x.id_).wf = true ∧ (Lit.int .i64 x.at_).wf = true ∧ (Lit.int .i64 x.state).wf = true ∧ (Lit.int .i64 x.done).wf = true ∧ (x.undos.length ≤ maxLen ∧ ∀ y ∈ x.undos, y.wf)
def DTxn.le (B : Nat) (x : DTxn) : Prop := (x.undos.length ≤ B)
theorem DTxn.wf_le {x : DTxn} (h : x.wf) : x.le 9223372036854775807 := (h.2.2.2.2).1
theorem DTxn.ok {B : Nat} {x : DTxn} : okTxn B x.enc ↔ DTxn.le B x := by
  constructor
  · rintro ⟨a0, a1, a2, a3, c4, h, lc4, oc4⟩
    simp only [DTxn.enc, List.cons.injEq, Cell.v.injEq, Cell.own.injEq, Value.int.injEq, Value.bool.injEq, true_and, and_true] at h
    obtain ⟨rfl, rfl, rfl, rfl, rfl⟩ := h
    simp only [DTxn.le]; exact (by simpa using lc4)
  · intro h
    simp only [DTxn.le] at h; have lc4 := h; exact ⟨x.id_, x.at_, x.state, x.done, (x.undos.map DUndo.enc), rfl, (by simpa using lc4), (by intro r hr; obtain ⟨y, hy, rfl⟩ := List.mem_map.1 hr; exact DUndo.ok _ y)⟩
structure DVersion where
  txn : Int
  at_ : Int
  gone : Bool
  value : Int
def DVersion.enc (x : DVersion) : List Cell := [.v (.int .i64 x.txn), .v (.int .i64 x.at_), .v (.bool x.gone), .v (.int .i64 x.value)]
@[simp] theorem DVersion.pure (x : DVersion) : ∀ K, cells1 K x.enc := by intro K; simp [DVersion.enc, Clean.v]
def DVersion.wf (x : DVersion) : Prop := (Lit.int .i64 x.txn).wf = true ∧ (Lit.int .i64 x.at_).wf = true ∧ True ∧ (Lit.int .i64 x.value).wf = true
theorem DVersion.ok (B : Nat) (x : DVersion) : okVersion B x.enc := ⟨x.txn, x.at_, x.gone, x.value, rfl⟩
structure DRow where
  key : Int
  chain : List (DVersion)
def DRow.enc (x : DRow) : List Cell := [.v (.int .i64 x.key), .own 4 (x.chain.map DVersion.enc)]
@[simp] theorem DRow.pure (x : DRow) : ∀ K, cells1 K x.enc := by intro K; simp [DRow.enc, Clean.v, DVersion.pure]
def DRow.wf (x : DRow) : Prop := (Lit.int .i64 x.key).wf = true ∧ (x.chain.length ≤ maxLen ∧ ∀ y ∈ x.chain, y.wf)
def DRow.le (B : Nat) (x : DRow) : Prop := (x.chain.length ≤ B)
theorem DRow.wf_le {x : DRow} (h : x.wf) : x.le 9223372036854775807 := (h.2).1
theorem DRow.ok {B : Nat} {x : DRow} : okRow B x.enc ↔ DRow.le B x := by
  constructor
  · rintro ⟨a0, c1, h, lc1, oc1⟩
    simp only [DRow.enc, List.cons.injEq, Cell.v.injEq, Cell.own.injEq, Value.int.injEq, Value.bool.injEq, true_and, and_true] at h
    obtain ⟨rfl, rfl⟩ := h
    simp only [DRow.le]; exact (by simpa using lc1)
  · intro h
    simp only [DRow.le] at h; have lc1 := h; exact ⟨x.key, (x.chain.map DVersion.enc), rfl, (by simpa using lc1), (by intro r hr; obtain ⟨y, hy, rfl⟩ := List.mem_map.1 hr; exact DVersion.ok _ y)⟩
structure DEngine where
  next : Int
  clock : Int
  txns : List (DTxn)
  rows : List (DRow)
def DEngine.enc (x : DEngine) : List Cell := [.v (.int .i64 x.next), .v (.int .i64 x.clock), .own 5 (x.txns.map DTxn.enc), .own 2 (x.rows.map DRow.enc)]
@[simp] theorem DEngine.pure (x : DEngine) : ∀ K, cells1 K x.enc := by intro K; simp [DEngine.enc, Clean.v, DRow.pure, DTxn.pure]
def DEngine.wf (x : DEngine) : Prop := (Lit.int .i64 x.next).wf = true ∧ (Lit.int .i64 x.clock).wf = true ∧ (x.txns.length ≤ maxLen ∧ ∀ y ∈ x.txns, y.wf) ∧ (x.rows.length ≤ maxLen ∧ ∀ y ∈ x.rows, y.wf)
def DEngine.le (B : Nat) (x : DEngine) : Prop := (x.txns.length ≤ B ∧ ∀ y ∈ x.txns, DTxn.le B y) ∧ (x.rows.length ≤ B ∧ ∀ y ∈ x.rows, DRow.le B y)
theorem DEngine.wf_le {x : DEngine} (h : x.wf) : x.le 9223372036854775807 := ⟨⟨(h.2.2.1).1, fun y hy => DTxn.wf_le (((h.2.2.1).2 y hy))⟩, ⟨(h.2.2.2).1, fun y hy => DRow.wf_le (((h.2.2.2).2 y hy))⟩⟩
theorem DEngine.ok {B : Nat} {x : DEngine} : okEngine B x.enc ↔ DEngine.le B x := by
  constructor
  · rintro ⟨a0, a1, c2, c3, h, lc2, oc2, lc3, oc3⟩
    simp only [DEngine.enc, List.cons.injEq, Cell.v.injEq, Cell.own.injEq, Value.int.injEq, Value.bool.injEq, true_and, and_true] at h
    obtain ⟨rfl, rfl, rfl, rfl⟩ := h
    simp only [DEngine.le]; exact ⟨⟨by simpa using lc2, fun y hy => DTxn.ok.1 (oc2 _ (List.mem_map.2 ⟨y, hy, rfl⟩))⟩, ⟨by simpa using lc3, fun y hy => DRow.ok.1 (oc3 _ (List.mem_map.2 ⟨y, hy, rfl⟩))⟩⟩
  · intro h
    simp only [DEngine.le] at h; obtain ⟨⟨lc2, mc2⟩, ⟨lc3, mc3⟩⟩ := h; exact ⟨x.next, x.clock, (x.txns.map DTxn.enc), (x.rows.map DRow.enc), rfl, (by simpa using lc2), (by intro r hr; obtain ⟨y, hy, rfl⟩ := List.mem_map.1 hr; exact DTxn.ok.2 (mc2 y hy)), (by simpa using lc3), (by intro r hr; obtain ⟨y, hy, rfl⟩ := List.mem_map.1 hr; exact DRow.ok.2 (mc3 y hy))⟩
structure DEngineResult where
  code : Int
  value : Int
  engine : DEngine
def DEngineResult.enc (x : DEngineResult) : List Cell := [.v (.int .i64 x.code), .v (.int .i64 x.value), .v (.int .i64 x.engine.next), .v (.int .i64 x.engine.clock), .own 5 (x.engine.txns.map DTxn.enc), .own 2 (x.engine.rows.map DRow.enc)]
@[simp] theorem DEngineResult.pure (x : DEngineResult) : ∀ K, cells1 K x.enc := by intro K; simp [DEngineResult.enc, Clean.v, DRow.pure, DTxn.pure]
def DEngineResult.wf (x : DEngineResult) : Prop := (Lit.int .i64 x.code).wf = true ∧ (Lit.int .i64 x.value).wf = true ∧ x.engine.wf
def DEngineResult.le (B : Nat) (x : DEngineResult) : Prop := DEngine.le B x.engine
theorem DEngineResult.wf_le {x : DEngineResult} (h : x.wf) : x.le 9223372036854775807 := DEngine.wf_le (h.2.2)
theorem DEngineResult.ok {B : Nat} {x : DEngineResult} : okEngineResult B x.enc ↔ DEngineResult.le B x := by
  constructor
  · rintro ⟨a0, a1, a2, a3, c4, c5, h, lc4, oc4, lc5, oc5⟩
    simp only [DEngineResult.enc, List.cons.injEq, Cell.v.injEq, Cell.own.injEq, Value.int.injEq, Value.bool.injEq, true_and, and_true] at h
    obtain ⟨rfl, rfl, rfl, rfl, rfl, rfl⟩ := h
    simp only [DEngineResult.le, DEngine.le]; exact ⟨⟨by simpa using lc4, fun y hy => DTxn.ok.1 (oc4 _ (List.mem_map.2 ⟨y, hy, rfl⟩))⟩, ⟨by simpa using lc5, fun y hy => DRow.ok.1 (oc5 _ (List.mem_map.2 ⟨y, hy, rfl⟩))⟩⟩
  · intro h
    simp only [DEngineResult.le, DEngine.le] at h; obtain ⟨⟨lc4, mc4⟩, ⟨lc5, mc5⟩⟩ := h; exact ⟨x.code, x.value, x.engine.next, x.engine.clock, (x.engine.txns.map DTxn.enc), (x.engine.rows.map DRow.enc), rfl, (by simpa using lc4), (by intro r hr; obtain ⟨y, hy, rfl⟩ := List.mem_map.1 hr; exact DTxn.ok.2 (mc4 y hy)), (by simpa using lc5), (by intro r hr; obtain ⟨y, hy, rfl⟩ := List.mem_map.1 hr; exact DRow.ok.2 (mc5 y hy))⟩
structure DIntsResult where
  code : Int
  list : List (Int)
def DIntsResult.enc (x : DIntsResult) : List Cell := [.v (.int .i64 x.code), .own 1 (x.list.map encI)]
@[simp] theorem DIntsResult.pure (x : DIntsResult) : ∀ K, cells1 K x.enc := by intro K; simp [DIntsResult.enc, Clean.v, encI]
def DIntsResult.wf (x : DIntsResult) : Prop := (Lit.int .i64 x.code).wf = true ∧ (x.list.length ≤ maxLen ∧ ∀ y ∈ x.list, (Lit.int .i64 y).wf = true)
def DIntsResult.le (B : Nat) (x : DIntsResult) : Prop := (x.list.length ≤ B)
theorem DIntsResult.wf_le {x : DIntsResult} (h : x.wf) : x.le 9223372036854775807 := (h.2).1
theorem DIntsResult.ok {B : Nat} {x : DIntsResult} : okIntsResult B x.enc ↔ DIntsResult.le B x := by
  constructor
  · rintro ⟨a0, c1, h, lc1, oc1⟩
    simp only [DIntsResult.enc, List.cons.injEq, Cell.v.injEq, Cell.own.injEq, Value.int.injEq, Value.bool.injEq, true_and, and_true] at h
    obtain ⟨rfl, rfl⟩ := h
    simp only [DIntsResult.le]; exact (by simpa using lc1)
  · intro h
    simp only [DIntsResult.le] at h; have lc1 := h; exact ⟨x.code, (x.list.map encI), rfl, (by simpa using lc1), (by intro r hr; obtain ⟨y, hy, rfl⟩ := List.mem_map.1 hr; exact ⟨y, rfl⟩)⟩
structure DPair where
  value : Int
  key : Int
def DPair.enc (x : DPair) : List Cell := [.v (.int .i64 x.value), .v (.int .i64 x.key)]
@[simp] theorem DPair.pure (x : DPair) : ∀ K, cells1 K x.enc := by intro K; simp [DPair.enc, Clean.v]
def DPair.wf (x : DPair) : Prop := (Lit.int .i64 x.value).wf = true ∧ (Lit.int .i64 x.key).wf = true
theorem DPair.ok (B : Nat) (x : DPair) : okPair B x.enc := ⟨x.value, x.key, rfl⟩
structure DPairsResult where
  code : Int
  pairs : List (DPair)
def DPairsResult.enc (x : DPairsResult) : List Cell := [.v (.int .i64 x.code), .own 2 (x.pairs.map DPair.enc)]
@[simp] theorem DPairsResult.pure (x : DPairsResult) : ∀ K, cells1 K x.enc := by intro K; simp [DPairsResult.enc, Clean.v, DPair.pure]
def DPairsResult.wf (x : DPairsResult) : Prop := (Lit.int .i64 x.code).wf = true ∧ (x.pairs.length ≤ maxLen ∧ ∀ y ∈ x.pairs, y.wf)
def DPairsResult.le (B : Nat) (x : DPairsResult) : Prop := (x.pairs.length ≤ B)
theorem DPairsResult.wf_le {x : DPairsResult} (h : x.wf) : x.le 9223372036854775807 := (h.2).1
theorem DPairsResult.ok {B : Nat} {x : DPairsResult} : okPairsResult B x.enc ↔ DPairsResult.le B x := by
  constructor
  · rintro ⟨a0, c1, h, lc1, oc1⟩
    simp only [DPairsResult.enc, List.cons.injEq, Cell.v.injEq, Cell.own.injEq, Value.int.injEq, Value.bool.injEq, true_and, and_true] at h
    obtain ⟨rfl, rfl⟩ := h
    simp only [DPairsResult.le]; exact (by simpa using lc1)
  · intro h
    simp only [DPairsResult.le] at h; have lc1 := h; exact ⟨x.code, (x.pairs.map DPair.enc), rfl, (by simpa using lc1), (by intro r hr; obtain ⟨y, hy, rfl⟩ := List.mem_map.1 hr; exact DPair.ok _ y)⟩
theorem op220 : Px.Op Tryz.prog 220 4 DUndo.enc DUndo.wf := by
  refine Px.Op.struct (fs := #[{ name := "Key", type := 2, offset := 0, embedded := false, tag := "", pkgPath := "", byteOffset := 0 }, { name := "Had", type := 4, offset := 1, embedded := false, tag := "", pkgPath := "", byteOffset := 8 }, { name := "Gone", type := 4, offset := 2, embedded := false, tag := "", pkgPath := "", byteOffset := 9 }, { name := "Value", type := 2, offset := 3, embedded := false, tag := "", pkgPath := "", byteOffset := 16 }]) (fun p : (Int) × (Bool) × (Bool) × (Int) => (⟨p.1, p.2.1, p.2.2.1, p.2.2.2⟩ : DUndo)) (by kernel_rfl) (by kernel_rfl) ?_ ?_ (OpF.cons (off := 0) (off' := 1) (n := 1) (n' := 3) rfl (by kernel_rfl) (Px.Op.int (t := 2) (k := .i64) (by kernel_rfl)) rfl (OpF.cons (off := 1) (off' := 2) (n := 1) (n' := 2) rfl (by kernel_rfl) (Px.Op.bool (t := 4) (by kernel_rfl)) rfl (OpF.cons (off := 2) (off' := 3) (n := 1) (n' := 1) rfl (by kernel_rfl) (Px.Op.bool (t := 4) (by kernel_rfl)) rfl (OpF.one (off := 3) (n := 1) rfl (by kernel_rfl) (Px.Op.int (t := 2) (k := .i64) (by kernel_rfl))))))
  · exact fun p => rfl
  · exact fun p h => h
theorem op149 : Px.Op Tryz.prog 149 5 DTxn.enc DTxn.wf := by
  refine Px.Op.struct (fs := #[{ name := "Id", type := 2, offset := 0, embedded := false, tag := "", pkgPath := "", byteOffset := 0 }, { name := "At", type := 2, offset := 1, embedded := false, tag := "", pkgPath := "", byteOffset := 8 }, { name := "State", type := 2, offset := 2, embedded := false, tag := "", pkgPath := "", byteOffset := 16 }, { name := "Done", type := 2, offset := 3, embedded := false, tag := "", pkgPath := "", byteOffset := 24 }, { name := "Undos", type := 147, offset := 4, embedded := false, tag := "", pkgPath := "", byteOffset := 32 }]) (fun p : (Int) × (Int) × (Int) × (Int) × (List (DUndo)) => (⟨p.1, p.2.1, p.2.2.1, p.2.2.2.1, p.2.2.2.2⟩ : DTxn)) (by kernel_rfl) (by kernel_rfl) ?_ ?_ (OpF.cons (off := 0) (off' := 1) (n := 1) (n' := 4) rfl (by kernel_rfl) (Px.Op.int (t := 2) (k := .i64) (by kernel_rfl)) rfl (OpF.cons (off := 1) (off' := 2) (n := 1) (n' := 3) rfl (by kernel_rfl) (Px.Op.int (t := 2) (k := .i64) (by kernel_rfl)) rfl (OpF.cons (off := 2) (off' := 3) (n := 1) (n' := 2) rfl (by kernel_rfl) (Px.Op.int (t := 2) (k := .i64) (by kernel_rfl)) rfl (OpF.cons (off := 3) (off' := 4) (n := 1) (n' := 1) rfl (by kernel_rfl) (Px.Op.int (t := 2) (k := .i64) (by kernel_rfl)) rfl (OpF.one (off := 4) (n := 1) rfl (by kernel_rfl) (Px.Op.slice (t := 147) (e := 220) (enc := DUndo.enc) (by kernel_rfl) (by kernel_rfl) (by decide) op220))))))
  · exact fun p => rfl
  · exact fun p h => h
theorem op222 : Px.Op Tryz.prog 222 4 DVersion.enc DVersion.wf := by
  refine Px.Op.struct (fs := #[{ name := "Txn", type := 2, offset := 0, embedded := false, tag := "", pkgPath := "", byteOffset := 0 }, { name := "At", type := 2, offset := 1, embedded := false, tag := "", pkgPath := "", byteOffset := 8 }, { name := "Gone", type := 4, offset := 2, embedded := false, tag := "", pkgPath := "", byteOffset := 16 }, { name := "Value", type := 2, offset := 3, embedded := false, tag := "", pkgPath := "", byteOffset := 24 }]) (fun p : (Int) × (Int) × (Bool) × (Int) => (⟨p.1, p.2.1, p.2.2.1, p.2.2.2⟩ : DVersion)) (by kernel_rfl) (by kernel_rfl) ?_ ?_ (OpF.cons (off := 0) (off' := 1) (n := 1) (n' := 3) rfl (by kernel_rfl) (Px.Op.int (t := 2) (k := .i64) (by kernel_rfl)) rfl (OpF.cons (off := 1) (off' := 2) (n := 1) (n' := 2) rfl (by kernel_rfl) (Px.Op.int (t := 2) (k := .i64) (by kernel_rfl)) rfl (OpF.cons (off := 2) (off' := 3) (n := 1) (n' := 1) rfl (by kernel_rfl) (Px.Op.bool (t := 4) (by kernel_rfl)) rfl (OpF.one (off := 3) (n := 1) rfl (by kernel_rfl) (Px.Op.int (t := 2) (k := .i64) (by kernel_rfl))))))
  · exact fun p => rfl
  · exact fun p h => h
theorem op153 : Px.Op Tryz.prog 153 2 DRow.enc DRow.wf := by
  refine Px.Op.struct (fs := #[{ name := "Key", type := 2, offset := 0, embedded := false, tag := "", pkgPath := "", byteOffset := 0 }, { name := "Chain", type := 151, offset := 1, embedded := false, tag := "", pkgPath := "", byteOffset := 8 }]) (fun p : (Int) × (List (DVersion)) => (⟨p.1, p.2⟩ : DRow)) (by kernel_rfl) (by kernel_rfl) ?_ ?_ (OpF.cons (off := 0) (off' := 1) (n := 1) (n' := 1) rfl (by kernel_rfl) (Px.Op.int (t := 2) (k := .i64) (by kernel_rfl)) rfl (OpF.one (off := 1) (n := 1) rfl (by kernel_rfl) (Px.Op.slice (t := 151) (e := 222) (enc := DVersion.enc) (by kernel_rfl) (by kernel_rfl) (by decide) op222)))
  · exact fun p => rfl
  · exact fun p h => h
theorem op25 : Px.Op Tryz.prog 25 4 DEngine.enc DEngine.wf := by
  refine Px.Op.struct (fs := #[{ name := "Next", type := 2, offset := 0, embedded := false, tag := "", pkgPath := "", byteOffset := 0 }, { name := "Clock", type := 2, offset := 1, embedded := false, tag := "", pkgPath := "", byteOffset := 8 }, { name := "Txns", type := 22, offset := 2, embedded := false, tag := "", pkgPath := "", byteOffset := 16 }, { name := "Rows", type := 23, offset := 3, embedded := false, tag := "", pkgPath := "", byteOffset := 40 }]) (fun p : (Int) × (Int) × (List (DTxn)) × (List (DRow)) => (⟨p.1, p.2.1, p.2.2.1, p.2.2.2⟩ : DEngine)) (by kernel_rfl) (by kernel_rfl) ?_ ?_ (OpF.cons (off := 0) (off' := 1) (n := 1) (n' := 3) rfl (by kernel_rfl) (Px.Op.int (t := 2) (k := .i64) (by kernel_rfl)) rfl (OpF.cons (off := 1) (off' := 2) (n := 1) (n' := 2) rfl (by kernel_rfl) (Px.Op.int (t := 2) (k := .i64) (by kernel_rfl)) rfl (OpF.cons (off := 2) (off' := 3) (n := 1) (n' := 1) rfl (by kernel_rfl) (Px.Op.slice (t := 22) (e := 149) (enc := DTxn.enc) (by kernel_rfl) (by kernel_rfl) (by decide) op149) rfl (OpF.one (off := 3) (n := 1) rfl (by kernel_rfl) (Px.Op.slice (t := 23) (e := 153) (enc := DRow.enc) (by kernel_rfl) (by kernel_rfl) (by decide) op153)))))
  · exact fun p => rfl
  · exact fun p h => h
end Go.Proofs.YtnlbjfdmjlnlgaaGreat


namespace Go.Proofs.YtnlbjfdmjlnlgaaGreat
open Go Go.Px Go.RowKit Go.Proofs
set_option linter.unnecessarySimpa false
set_option linter.unusedVariables false
set_option linter.unusedSimpArgs false
set_option maxRecDepth 100000
set_option maxHeartbeats 1000000
attribute [-simp] Int.not_le Int.not_lt
def inR (v lo hi : Int) : Bool := decide (lo ≤ v) && decide (v ≤ hi)
theorem spec_l1In (H : HH) (v lo hi : Int) : PFun Tryz.prog 67 [I v, I lo, I hi] H (B (inR v lo hi)) := by
  refine PFun.of [0, 1, 2, 6] Tryz.func67 rfl (by simp [Tryz.f67]) ?_
  intro d hd0 hfr hcl hout
  have hcd : ∀ n q, CleanH (hit [((d, n), q)]) H := fun n q => hcl.at
  simp (maxSteps := 4000000) [hd0, hfr, hout, hcl, hcd, delA_none, Tryz.f67]
  constructor <;> intros <;> simp_all [inR]
theorem impl_within (H : HH) (v lo hi : Int) : PFun Tryz.prog 69 [I v, I lo, I hi] H (B (inR v lo hi)) := by
  refine PFun.of [0, 1, 2, 6] Tryz.func69 rfl (by simp [Tryz.f69]) ?_
  intro d hd0 hfr hcl hout
  have hcd : ∀ n q, CleanH (hit [((d, n), q)]) H := fun n q => hcl.at
  simp (maxSteps := 4000000) [hd0, hfr, hout, hcl, hcd, delA_none, Tryz.f69]
  constructor <;> intros <;> simp_all [inR]
/-- the first place where a predicate holds, or -1 -/
def idxF {α : Type} (P : α → Bool) : List α → Int
  | [] => -1
  | x :: l => if P x then 0 else if idxF P l < 0 then -1 else idxF P l + 1
theorem idxF_ge {α : Type} {P : α → Bool} : ∀ {l : List α}, -1 ≤ idxF P l
  | [] => by simp [idxF]
  | x :: l => by
    have ih := idxF_ge (P := P) (l := l)
    simp only [idxF]; split <;> (try split) <;> omega
theorem idxF_any {α : Type} {P : α → Bool} : ∀ {l : List α}, decide (idxF P l ≥ 0) = l.any P
  | [] => by simp [idxF]
  | x :: l => by
    have ih := idxF_any (P := P) (l := l)
    simp only [idxF, List.any_cons, ← ih]
    by_cases h : P x = true
    · simp [h]
    · by_cases h2 : idxF P l < 0
      · simp [h, h2]; omega
      · simp [h, h2]; omega
theorem idxF_drop {α : Type} {P : α → Bool} {l : List α} {i : Nat} (h : ∀ x ∈ l.take i, P x = false) : idxF P l = if idxF P (l.drop i) < 0 then -1 else idxF P (l.drop i) + i := by
  induction l generalizing i with
  | nil => simp [idxF]
  | cons x l ih =>
    cases i with
    | zero => have := idxF_ge (P := P) (l := x :: l); simp; omega
    | succ i =>
      have hx : P x = false := h x (by simp)
      have := ih (i := i) (fun y hy => h y (by simp [hy]))
      simp only [idxF, hx, List.drop_succ_cons, Bool.false_eq_true, if_false]
      rw [this]
      by_cases h2 : idxF P (l.drop i) < 0
      · simp [h2]
      · simp only [h2, if_false]; rw [if_neg (by omega)]; push_cast; omega
end Go.Proofs.YtnlbjfdmjlnlgaaGreat


namespace Go.Proofs.YtnlbjfdmjlnlgaaGreat
open Go Go.Px Go.RowKit Go.Proofs
set_option linter.unnecessarySimpa false
set_option linter.unusedVariables false
set_option linter.unusedSimpArgs false
set_option maxRecDepth 100000
set_option maxHeartbeats 1000000
attribute [-simp] Int.not_le Int.not_lt
theorem impl_isTxn (H : HH) (v : Int) : PFun Tryz.prog 105 [I v] H (B (inR v 1 999)) := by
  refine PFun.of [0, 2] Tryz.func105 rfl (by simp [Tryz.f105]) ?_
  intro d hd0 hfr hcl hout
  have hcd : ∀ n q, CleanH (hit [((d, n), q)]) H := fun n q => hcl.at
  simp (maxSteps := 4000000) [hd0, hfr, hout, hcl, hcd, delA_none, Tryz.f105]
  refine (impl_within _ _ _ _).useCK ?_
  simp (maxSteps := 4000000) [hd0, hfr, hout, hcl, hcd, delA_none]
theorem impl_isLsn (H : HH) (v : Int) : PFun Tryz.prog 106 [I v] H (B (inR v 0 1000000)) := by
  refine PFun.of [0, 2] Tryz.func106 rfl (by simp [Tryz.f106]) ?_
  intro d hd0 hfr hcl hout
  have hcd : ∀ n q, CleanH (hit [((d, n), q)]) H := fun n q => hcl.at
  simp (maxSteps := 4000000) [hd0, hfr, hout, hcl, hcd, delA_none, Tryz.f106]
  refine (impl_within _ _ _ _).useCK ?_
  simp (maxSteps := 4000000) [hd0, hfr, hout, hcl, hcd, delA_none]
theorem impl_isKey (H : HH) (v : Int) : PFun Tryz.prog 79 [I v] H (B (inR v 0 31)) := by
  refine PFun.of [0, 2] Tryz.func79 rfl (by simp [Tryz.f79]) ?_
  intro d hd0 hfr hcl hout
  have hcd : ∀ n q, CleanH (hit [((d, n), q)]) H := fun n q => hcl.at
  simp (maxSteps := 4000000) [hd0, hfr, hout, hcl, hcd, delA_none, Tryz.f79]
  refine (impl_within _ _ _ _).useCK ?_
  simp (maxSteps := 4000000) [hd0, hfr, hout, hcl, hcd, delA_none]
theorem impl_isValue (H : HH) (v : Int) : PFun Tryz.prog 80 [I v] H (B (inR v 0 9999)) := by
  refine PFun.of [0, 2] Tryz.func80 rfl (by simp [Tryz.f80]) ?_
  intro d hd0 hfr hcl hout
  have hcd : ∀ n q, CleanH (hit [((d, n), q)]) H := fun n q => hcl.at
  simp (maxSteps := 4000000) [hd0, hfr, hout, hcl, hcd, delA_none, Tryz.f80]
  refine (impl_within _ _ _ _).useCK ?_
  simp (maxSteps := 4000000) [hd0, hfr, hout, hcl, hcd, delA_none]
theorem spec_l5Txn (H : HH) (v : Int) : PFun Tryz.prog 135 [I v] H (B (inR v 1 999)) := by
  refine PFun.of [0, 2] Tryz.func135 rfl (by simp [Tryz.f135]) ?_
  intro d hd0 hfr hcl hout
  have hcd : ∀ n q, CleanH (hit [((d, n), q)]) H := fun n q => hcl.at
  simp (maxSteps := 4000000) [hd0, hfr, hout, hcl, hcd, delA_none, Tryz.f135]
  refine (spec_l1In _ _ _ _).useCK ?_
  simp (maxSteps := 4000000) [hd0, hfr, hout, hcl, hcd, delA_none]
theorem spec_l1Key (H : HH) (v : Int) : PFun Tryz.prog 75 [I v] H (B (inR v 0 31)) := by
  refine PFun.of [0, 2] Tryz.func75 rfl (by simp [Tryz.f75]) ?_
  intro d hd0 hfr hcl hout
  have hcd : ∀ n q, CleanH (hit [((d, n), q)]) H := fun n q => hcl.at
  simp (maxSteps := 4000000) [hd0, hfr, hout, hcl, hcd, delA_none, Tryz.f75]
  refine (spec_l1In _ _ _ _).useCK ?_
  simp (maxSteps := 4000000) [hd0, hfr, hout, hcl, hcd, delA_none]
theorem spec_l1Value (H : HH) (v : Int) : PFun Tryz.prog 76 [I v] H (B (inR v 0 9999)) := by
  refine PFun.of [0, 2] Tryz.func76 rfl (by simp [Tryz.f76]) ?_
  intro d hd0 hfr hcl hout
  have hcd : ∀ n q, CleanH (hit [((d, n), q)]) H := fun n q => hcl.at
  simp (maxSteps := 4000000) [hd0, hfr, hout, hcl, hcd, delA_none, Tryz.f76]
  refine (spec_l1In _ _ _ _).useCK ?_
  simp (maxSteps := 4000000) [hd0, hfr, hout, hcl, hcd, delA_none]
/-- what stands ahead of the i-th -/
def prv {α : Type} (f : α → Int) (l : List α) (i : Nat) : Option Int := if i = 0 then none else l[i-1]?.map f
theorem prv_succ {α : Type} {f : α → Int} {l : List α} {i : Nat} (h : i < l.length) : prv f l (i + 1) = some (f l[i]) := by simp [prv, h]
theorem prv_pos {α : Type} {f : α → Int} {l : List α} {i : Nat} (h0 : i ≠ 0) (h : i - 1 < l.length) : prv f l i = some (f l[i-1]) := by simp [prv, h0, h]
/-- not above what stands ahead -/
def nab (p : Option Int) (k : Int) : Bool := match p with | some j => decide (k ≤ j) | none => false
end Go.Proofs.YtnlbjfdmjlnlgaaGreat


namespace Go.Proofs.YtnlbjfdmjlnlgaaGreat
open Go Go.Px Go.RowKit Go.Proofs
set_option linter.unnecessarySimpa false
set_option linter.unusedVariables false
set_option linter.unusedSimpArgs false
set_option maxRecDepth 100000
set_option maxHeartbeats 1000000
attribute [-simp] Int.not_le Int.not_lt
def badP : Option Int → Int → Bool
  | none, _ => false
  | some b, a => decide (a = 0) || (decide (b ≠ 0) && decide (b ≤ a))
def vRange (v : DVersion) : Bool := inR v.txn 1 999 && inR v.at_ 0 1000000 && inR v.value 0 9999
def chF : Option Int → List DVersion → Int
  | _, [] => 0
  | p, v :: l => if vRange v = false then 3 else if ((v.gone && decide (v.value ≠ 0)) || badP p v.at_) = true then 1 else chF (some v.at_) l
def chainF (l : List DVersion) : Int := if 12 < l.length then 2 else chF none l
theorem impl_ChainFault (H : HH) {r q} {l : List DVersion} (hb : l.length ≤ 1048576) (ha : arrAt H r q = some (4, l.map DVersion.enc)) : PFun Tryz.prog 108 [.c (.sl r q 4 0 l.length)] H (I (chainF l)) := by
  refine PFun.of [0, 2, 3, 4, 7, 8, 9, 10, 11, 15, 32] Tryz.func108 rfl (by simp [Tryz.f108]) ?_
  intro d hd0 hfr hcl hout
  have hcd : ∀ n q, CleanH (hit [((d, n), q)]) H := fun n q => hcl.at
  have ha_n : ∀ n, ¬ (d, n) = r := fun n => nm_ne (ne_of_arr hfr ha)
  have ha_d : ¬ r.1 = d := ne_of_arr hfr ha
  have ha_m : ∀ n, ¬ r = (d, n) := fun n => nm_ne' (ne_of_arr hfr ha)
  simp (maxSteps := 4000000) [hd0, hfr, hout, hcl, hcd, delA_none, ha, ha_n, ha_d, ha_m, Tryz.f108]
  by_cases h12 : 12 < l.length
  case pos => simp (maxSteps := 4000000) [hd0, hfr, hout, hcl, hcd, delA_none, ha, ha_n, ha_d, ha_m, show 12 < (l.length : Int) by omega, chainF, h12]
  have hF : chainF l = chF none l := by simp [chainF, h12]
  rw [hF]
  simp (maxSteps := 4000000) [hd0, hfr, hout, hcl, hcd, delA_none, ha, ha_n, ha_d, ha_m, show ¬ 12 < (l.length : Int) by omega]
  refine LoopK.intro (fun m s => ∃ i : Nat, i + m = l.length ∧ chF (prv DVersion.at_ l i) (l.drop i) = chF none l ∧ s = ⟨[(0, .c (.sl r q 4 0 l.length)), (8, .c (.sl r q 4 0 l.length)), (9, I l.length), (10, I i)], H, []⟩) (l.length + 1) (LK.intro l.length [0, 8, 9, 10] [] (by omega) (by decide) (by simp (maxSteps := 4000000) [hd0, hfr, hout, hcl, hcd, delA_none, ha, ha_n, ha_d, ha_m]) ⟨0, by simp [prv]⟩) ?_
  rintro m s ⟨i, him, hinv, rfl⟩
  by_cases hi' : i < l.length
  case neg =>
    rw [List.drop_eq_nil_of_le (by omega)] at hinv
    simp (maxSteps := 4000000) [hd0, hfr, hout, hcl, hcd, delA_none, ha, ha_n, ha_d, ha_m, show ¬ (i : Int) < l.length by omega]
    simpa [chF] using hinv
  rw [List.drop_eq_getElem_cons hi'] at hinv
  simp only [chF] at hinv
  have w1 : IntKind.i64.wrap ((i : Int) + 1) = i + 1 := w64 (by omega) (by omega)
  have hend := prv_succ (f := DVersion.at_) hi'
  simp (maxSteps := 4000000) [hd0, hfr, hout, hcl, hcd, delA_none, ha, ha_n, ha_d, ha_m, show (i : Int) < l.length by omega, hi', DVersion.enc]
  refine (impl_isTxn _ _).useCK ?_
  by_cases c1 : inR l[i].txn 1 999 = true
  case neg => simp only [Bool.not_eq_true] at c1; simp [vRange, c1] at hinv; simp (maxSteps := 4000000) [hd0, hfr, hout, hcl, hcd, delA_none, ha, ha_n, ha_d, ha_m, c1, hinv]
  simp (maxSteps := 4000000) [hd0, hfr, hout, hcl, hcd, delA_none, ha, ha_n, ha_d, ha_m, c1]
  refine (impl_isLsn _ _).useCK ?_
  by_cases c2 : inR l[i].at_ 0 1000000 = true
  case neg => simp only [Bool.not_eq_true] at c2; simp [vRange, c2] at hinv; simp (maxSteps := 4000000) [hd0, hfr, hout, hcl, hcd, delA_none, ha, ha_n, ha_d, ha_m, c2, hinv]
  simp (maxSteps := 4000000) [hd0, hfr, hout, hcl, hcd, delA_none, ha, ha_n, ha_d, ha_m, c2]
  refine (impl_isValue _ _).useCK ?_
  by_cases c3 : inR l[i].value 0 9999 = true
  case neg => simp only [Bool.not_eq_true] at c3; simp [vRange, c3] at hinv; simp (maxSteps := 4000000) [hd0, hfr, hout, hcl, hcd, delA_none, ha, ha_n, ha_d, ha_m, c3, hinv]
  have hv : vRange l[i] = true := by simp [vRange, c1, c2, c3]
  rw [hv, if_neg (by simp)] at hinv
  have w2 : i ≠ 0 → IntKind.i64.wrap ((i : Int) - 1) = (i - 1 : Nat) := fun h => by rw [w64 (by omega) (by omega)]; omega
  have hfin : badP (prv DVersion.at_ l i) l[i].at_ = false → (l[i].gone && decide (l[i].value ≠ 0)) = false → chF (some l[i].at_) (l.drop (i + 1)) = chF none l := fun h1 h2 => by rw [h1, h2] at hinv; simpa using hinv
  have hone : badP (prv DVersion.at_ l i) l[i].at_ = true → chF none l = 1 := fun h1 => by simpa [h1] using hinv.symm
  by_cases hg : l[i].gone = true
  case' pos =>
    by_cases hz : l[i].value = 0
    case neg =>
      have h1 : chF none l = 1 := by simpa [hg, hz] using hinv.symm
      simp (maxSteps := 4000000) [hd0, hfr, hout, hcl, hcd, delA_none, ha, ha_n, ha_d, ha_m, c3, hg, eq_false hz, h1]
    have hgv : (l[i].gone && decide (l[i].value ≠ 0)) = false := by simp [hz]
    simp (maxSteps := 4000000) [hd0, hfr, hout, hcl, hcd, delA_none, ha, ha_n, ha_d, ha_m, c3, hg, eq_true hz]
  case' neg =>
    simp only [Bool.not_eq_true] at hg
    have hgv : (l[i].gone && decide (l[i].value ≠ 0)) = false := by simp [hg]
    simp (maxSteps := 4000000) [hd0, hfr, hout, hcl, hcd, delA_none, ha, ha_n, ha_d, ha_m, c3, hg]
  all_goals
    by_cases ha0 : l[i].at_ = 0
    case pos =>
      by_cases hi0 : i = 0
      case neg =>
        have h1 := hone (by simp [prv_pos (f := DVersion.at_) hi0 (show i - 1 < l.length by omega), badP, ha0])
        simp (maxSteps := 4000000) [hd0, hfr, hout, hcl, hcd, delA_none, ha, ha_n, ha_d, ha_m, eq_true ha0, show (0 : Int) < (i : Int) by omega, show 0 < i by omega, hi0, h1]
      have hb2 := hfin (by simp [hi0, prv, badP]) hgv
      simp (maxSteps := 4000000) [hd0, hfr, hout, hcl, hcd, delA_none, ha, ha_n, ha_d, ha_m, eq_true ha0, eq_false (show ¬ (0 : Int) < (i : Int) by omega), eq_false (show ¬ 0 < i by omega), eq_true hi0]
      refine DrawK.intro 23 [0, 8, 9, 10, 32] rfl (by kernel_rfl) (by decide) ?_
      simp (maxSteps := 4000000) [hd0, hfr, hout, hcl, hcd, delA_none, ha, ha_n, ha_d, ha_m, eq_false (show ¬ (0 : Int) < (i : Int) by omega), eq_false (show ¬ 0 < i by omega), eq_true hi0, w1]
      refine LK.intro (m - 1) [0, 8, 9, 10] [4] (by omega) (by decide) (by simp (maxSteps := 4000000) [hd0, hfr, hout, hcl, hcd, delA_none, ha, ha_n, ha_d, ha_m]) ⟨i + 1, by omega, by rw [hend]; exact hb2, by simp⟩
    case neg =>
      simp (maxSteps := 4000000) [hd0, hfr, hout, hcl, hcd, delA_none, ha, ha_n, ha_d, ha_m, eq_false ha0]
      refine DrawK.intro 23 [0, 8, 9, 10, 32] rfl (by kernel_rfl) (by decide) ?_
      by_cases hi0 : i = 0
      · have hb2 := hfin (by simp [hi0, prv, badP]) hgv
        simp (maxSteps := 4000000) [hd0, hfr, hout, hcl, hcd, delA_none, ha, ha_n, ha_d, ha_m, eq_false (show ¬ (0 : Int) < (i : Int) by omega), eq_false (show ¬ 0 < i by omega), eq_true hi0, w1]
        refine LK.intro (m - 1) [0, 8, 9, 10] [4] (by omega) (by decide) (by simp (maxSteps := 4000000) [hd0, hfr, hout, hcl, hcd, delA_none, ha, ha_n, ha_d, ha_m]) ⟨i + 1, by omega, by rw [hend]; exact hb2, by simp⟩
      · have h3 : i - 1 < l.length := by omega
        have hp := prv_pos (f := DVersion.at_) hi0 h3
        by_cases hp0 : l[i-1].at_ = 0
        · have hb2 := hfin (by rw [hp]; simp [badP, hp0, ha0]) hgv
          simp (maxSteps := 4000000) [hd0, hfr, hout, hcl, hcd, delA_none, ha, ha_n, ha_d, ha_m, show (0 : Int) < (i : Int) by omega, show 0 < i by omega, hi0, w1, w2 hi0, h3, hi', DVersion.enc, hp0]
          refine LK.intro (m - 1) [0, 8, 9, 10] [4] (by omega) (by decide) (by simp (maxSteps := 4000000) [hd0, hfr, hout, hcl, hcd, delA_none, ha, ha_n, ha_d, ha_m]) ⟨i + 1, by omega, by rw [hend]; exact hb2, by simp⟩
        · by_cases hle : l[i-1].at_ ≤ l[i].at_
          · have h1 := hone (by rw [hp]; simp [badP, hp0, hle])
            simp (maxSteps := 4000000) [hd0, hfr, hout, hcl, hcd, delA_none, ha, ha_n, ha_d, ha_m, show (0 : Int) < (i : Int) by omega, show 0 < i by omega, hi0, w1, w2 hi0, h3, hi', DVersion.enc, hp0, hle, h1]
          · have hb2 := hfin (by rw [hp]; simp [badP, hle, ha0]) hgv
            simp (maxSteps := 4000000) [hd0, hfr, hout, hcl, hcd, delA_none, ha, ha_n, ha_d, ha_m, show (0 : Int) < (i : Int) by omega, show 0 < i by omega, hi0, w1, w2 hi0, h3, hi', DVersion.enc, hp0, hle]
            refine LK.intro (m - 1) [0, 8, 9, 10] [4] (by omega) (by decide) (by simp (maxSteps := 4000000) [hd0, hfr, hout, hcl, hcd, delA_none, ha, ha_n, ha_d, ha_m]) ⟨i + 1, by omega, by rw [hend]; exact hb2, by simp⟩
theorem spec_l5At (H : HH) (v : Int) : PFun Tryz.prog 206 [I v] H (B (inR v 1 1000000)) := by
  refine PFun.of [0, 2] Tryz.func206 rfl (by simp [Tryz.f206]) ?_
  intro d hd0 hfr hcl hout
  have hcd : ∀ n q, CleanH (hit [((d, n), q)]) H := fun n q => hcl.at
  simp (maxSteps := 4000000) [hd0, hfr, hout, hcl, hcd, delA_none, Tryz.f206]
  refine (spec_l1In _ _ _ _).useCK ?_
  simp (maxSteps := 4000000) [hd0, hfr, hout, hcl, hcd, delA_none]
theorem inR_at {a : Int} (h : ¬ a = 0) : inR a 1 1000000 = inR a 0 1000000 := by
  simp only [inR]
  congr 1
  simp; omega
set_option maxHeartbeats 2000000 in
theorem spec_ChainFault (H : HH) {r q} {l : List DVersion} (hb : l.length ≤ 1048576) (ha : arrAt H r q = some (4, l.map DVersion.enc)) : PFun Tryz.prog 181 [.c (.sl r q 4 0 l.length)] H (I (chainF l)) := by
  refine PFun.of [0, 2, 3, 4, 7, 11, 38, 78] Tryz.func181 rfl (by simp [Tryz.f181]) ?_
  intro d hd0 hfr hcl hout
  have hcd : ∀ n q, CleanH (hit [((d, n), q)]) H := fun n q => hcl.at
  have ha_n : ∀ n, ¬ (d, n) = r := fun n => nm_ne (ne_of_arr hfr ha)
  have ha_d : ¬ r.1 = d := ne_of_arr hfr ha
  have ha_m : ∀ n, ¬ r = (d, n) := fun n => nm_ne' (ne_of_arr hfr ha)
  simp (maxSteps := 4000000) [hd0, hfr, hout, hcl, hcd, delA_none, ha, ha_n, ha_d, ha_m, Tryz.f181]
  by_cases h12 : 12 < l.length
  case pos => simp (maxSteps := 4000000) [hd0, hfr, hout, hcl, hcd, delA_none, ha, ha_n, ha_d, ha_m, show 12 < (l.length : Int) by omega, chainF, h12]
  have hF : chainF l = chF none l := by simp [chainF, h12]
  rw [hF]
  simp (maxSteps := 4000000) [hd0, hfr, hout, hcl, hcd, delA_none, ha, ha_n, ha_d, ha_m, show ¬ 12 < (l.length : Int) by omega]
  refine LoopK.intro (fun m s => ∃ i : Nat, i + m = l.length ∧ chF (prv DVersion.at_ l i) (l.drop i) = chF none l ∧ s = ⟨[(0, .c (.sl r q 4 0 l.length)), (3, I i)], H, []⟩) (l.length + 1) (LK.intro l.length [0, 3] [] (by omega) (by decide) (by simp (maxSteps := 4000000) [hd0, hfr, hout, hcl, hcd, delA_none, ha, ha_n, ha_d, ha_m]) ⟨0, by simp [prv]⟩) ?_
  rintro m s ⟨i, him, hinv, rfl⟩
  by_cases hi' : i < l.length
  case neg =>
    rw [List.drop_eq_nil_of_le (by omega)] at hinv
    simp (maxSteps := 4000000) [hd0, hfr, hout, hcl, hcd, delA_none, ha, ha_n, ha_d, ha_m, show ¬ (i : Int) < l.length by omega]
    simpa [chF] using hinv
  rw [List.drop_eq_getElem_cons hi'] at hinv
  simp only [chF] at hinv
  have w1 : IntKind.i64.wrap ((i : Int) + 1) = i + 1 := w64 (by omega) (by omega)
  have hend := prv_succ (f := DVersion.at_) hi'
  simp (maxSteps := 4000000) [hd0, hfr, hout, hcl, hcd, delA_none, ha, ha_n, ha_d, ha_m, show (i : Int) < l.length by omega, hi', DVersion.enc]
  refine (spec_l5Txn _ _).useCK ?_
  by_cases c1 : inR l[i].txn 1 999 = true
  case neg => simp only [Bool.not_eq_true] at c1; simp [vRange, c1] at hinv; simp (maxSteps := 4000000) [hd0, hfr, hout, hcl, hcd, delA_none, ha, ha_n, ha_d, ha_m, c1, hinv]
  by_cases ha0 : l[i].at_ = 0
  case' pos =>
    have c2 : inR l[i].at_ 0 1000000 = true := by rw [ha0]; rfl
    simp (maxSteps := 4000000) [hd0, hfr, hout, hcl, hcd, delA_none, ha, ha_n, ha_d, ha_m, c1, eq_true ha0]
  case' neg =>
    simp (maxSteps := 4000000) [hd0, hfr, hout, hcl, hcd, delA_none, ha, ha_n, ha_d, ha_m, c1, eq_false ha0]
    refine (spec_l5At _ _).useCK ?_
    rw [inR_at ha0]
    by_cases c2 : inR l[i].at_ 0 1000000 = true
    case neg => simp only [Bool.not_eq_true] at c2; simp [vRange, c2] at hinv; simp (maxSteps := 4000000) [hd0, hfr, hout, hcl, hcd, delA_none, ha, ha_n, ha_d, ha_m, c2, hinv]
    simp (maxSteps := 4000000) [hd0, hfr, hout, hcl, hcd, delA_none, ha, ha_n, ha_d, ha_m, c2]
  all_goals
    refine (spec_l1Value _ _).useCK ?_
    by_cases c3 : inR l[i].value 0 9999 = true
    case neg => simp only [Bool.not_eq_true] at c3; simp [vRange, c3] at hinv; simp (maxSteps := 4000000) [hd0, hfr, hout, hcl, hcd, delA_none, ha, ha_n, ha_d, ha_m, c3, hinv]
    have hv : vRange l[i] = true := by simp [vRange, c1, c2, c3]
    rw [hv, if_neg (by simp)] at hinv
    have w2 : i ≠ 0 → IntKind.i64.wrap ((i : Int) - 1) = (i - 1 : Nat) := fun h => by rw [w64 (by omega) (by omega)]; omega
    have hfin : badP (prv DVersion.at_ l i) l[i].at_ = false → (l[i].gone && decide (l[i].value ≠ 0)) = false → chF (some l[i].at_) (l.drop (i + 1)) = chF none l := fun h1 h2 => by rw [h1, h2] at hinv; simpa using hinv
    have hone : badP (prv DVersion.at_ l i) l[i].at_ = true → chF none l = 1 := fun h1 => by simpa [h1] using hinv.symm
    simp (maxSteps := 4000000) [hd0, hfr, hout, hcl, hcd, delA_none, ha, ha_n, ha_d, ha_m, c3]
    refine DrawK.intro 40 [0, 3, 78] rfl (by kernel_rfl) (by decide) ?_
    by_cases hg : l[i].gone = true
    case' pos =>
      by_cases hz : l[i].value = 0
      case neg =>
        have h1 : chF none l = 1 := by simpa [hg, hz] using hinv.symm
        simp (maxSteps := 4000000) [hd0, hfr, hout, hcl, hcd, delA_none, ha, ha_n, ha_d, ha_m, hg, eq_false hz, h1]
      have hgv : (l[i].gone && decide (l[i].value ≠ 0)) = false := by simp [hz]
      have hgz : (!l[i].gone || decide (l[i].value = 0)) = true := by simp [hz]
    case' neg =>
      simp only [Bool.not_eq_true] at hg
      have hgv : (l[i].gone && decide (l[i].value ≠ 0)) = false := by simp [hg]
      have hz : True := trivial
    all_goals
      by_cases hi0 : i = 0
      · have hb2 := hfin (by simp [hi0, prv, badP]) hgv
        simp (maxSteps := 4000000) [hd0, hfr, hout, hcl, hcd, delA_none, ha, ha_n, ha_d, ha_m, hg, eq_true hz, eq_false (show ¬ (0 : Int) < (i : Int) by omega), eq_false (show ¬ 0 < i by omega), eq_true hi0, w1]
        refine LK.intro (m - 1) [0, 3] [4] (by omega) (by decide) (by simp (maxSteps := 4000000) [hd0, hfr, hout, hcl, hcd, delA_none, ha, ha_n, ha_d, ha_m]) ⟨i + 1, by omega, by rw [hend]; exact hb2, by simp⟩
      · have h3 : i - 1 < l.length := by omega
        have hp := prv_pos (f := DVersion.at_) hi0 h3
        by_cases ha0 : l[i].at_ = 0
        · have h1 := hone (by rw [hp]; simp [badP, ha0])
          simp (maxSteps := 4000000) [hd0, hfr, hout, hcl, hcd, delA_none, ha, ha_n, ha_d, ha_m, hg, eq_true hz, eq_true (show (0 : Int) < (i : Int) by omega), eq_true (show 0 < i by omega), hi0, w1, w2 hi0, h3, hi', DVersion.enc, eq_true ha0, h1]
        · by_cases hp0 : l[i-1].at_ = 0
          · have hb2 := hfin (by rw [hp]; simp [badP, hp0, ha0]) hgv
            simp (maxSteps := 4000000) [hd0, hfr, hout, hcl, hcd, delA_none, ha, ha_n, ha_d, ha_m, hg, eq_true hz, eq_true (show (0 : Int) < (i : Int) by omega), eq_true (show 0 < i by omega), hi0, w1, w2 hi0, h3, hi', DVersion.enc, eq_false ha0, eq_true hp0]
            refine LK.intro (m - 1) [0, 3] [4] (by omega) (by decide) (by simp (maxSteps := 4000000) [hd0, hfr, hout, hcl, hcd, delA_none, ha, ha_n, ha_d, ha_m]) ⟨i + 1, by omega, by rw [hend]; exact hb2, by simp⟩
          · by_cases hle : l[i-1].at_ ≤ l[i].at_
            · have h1 := hone (by rw [hp]; simp [badP, hp0, hle])
              simp (maxSteps := 4000000) [hd0, hfr, hout, hcl, hcd, delA_none, ha, ha_n, ha_d, ha_m, hg, eq_true hz, eq_true (show (0 : Int) < (i : Int) by omega), eq_true (show 0 < i by omega), hi0, w1, w2 hi0, h3, hi', DVersion.enc, eq_false ha0, eq_false hp0, hle, h1]
            · have hb2 := hfin (by rw [hp]; simp [badP, hle, ha0]) hgv
              simp (maxSteps := 4000000) [hd0, hfr, hout, hcl, hcd, delA_none, ha, ha_n, ha_d, ha_m, hg, eq_true hz, eq_true (show (0 : Int) < (i : Int) by omega), eq_true (show 0 < i by omega), hi0, w1, w2 hi0, h3, hi', DVersion.enc, eq_false ha0, eq_false hp0, hle]
              refine LK.intro (m - 1) [0, 3] [4] (by omega) (by decide) (by simp (maxSteps := 4000000) [hd0, hfr, hout, hcl, hcd, delA_none, ha, ha_n, ha_d, ha_m]) ⟨i + 1, by omega, by rw [hend]; exact hb2, by simp⟩
def uRange (u : DUndo) : Bool := inR u.key 0 31 && inR u.value 0 9999
def uForm (u : DUndo) : Bool := (u.had || (!u.gone && decide (u.value = 0))) && (!u.gone || decide (u.value = 0))
def unF : List DUndo → Int
  | [] => 0
  | u :: l => if uRange u = false then 3 else if uForm u = false then 1 else unF l
def undosF (l : List DUndo) : Int := if 60 < l.length then 2 else unF l
theorem impl_undosFault (H : HH) {r q} {l : List DUndo} (hb : l.length ≤ 1048576) (ha : arrAt H r q = some (4, l.map DUndo.enc)) : PFun Tryz.prog 107 [.c (.sl r q 4 0 l.length)] H (I (undosF l)) := by
  refine PFun.of [0, 2, 4, 7, 8, 9, 10, 11, 14, 25] Tryz.func107 rfl (by simp [Tryz.f107]) ?_
  intro d hd0 hfr hcl hout
  have hcd : ∀ n q, CleanH (hit [((d, n), q)]) H := fun n q => hcl.at
  have ha_n : ∀ n, ¬ (d, n) = r := fun n => nm_ne (ne_of_arr hfr ha)
  have ha_d : ¬ r.1 = d := ne_of_arr hfr ha
  have ha_m : ∀ n, ¬ r = (d, n) := fun n => nm_ne' (ne_of_arr hfr ha)
  simp (maxSteps := 4000000) [hd0, hfr, hout, hcl, hcd, delA_none, ha, ha_n, ha_d, ha_m, Tryz.f107]
  by_cases h12 : 60 < l.length
  case pos => simp (maxSteps := 4000000) [hd0, hfr, hout, hcl, hcd, delA_none, ha, ha_n, ha_d, ha_m, show 60 < (l.length : Int) by omega, undosF, h12]
  have hF : undosF l = unF l := by simp [undosF, h12]
  rw [hF]
  simp (maxSteps := 4000000) [hd0, hfr, hout, hcl, hcd, delA_none, ha, ha_n, ha_d, ha_m, show ¬ 60 < (l.length : Int) by omega]
  refine LoopK.intro (fun m s => ∃ i : Nat, i + m = l.length ∧ unF (l.drop i) = unF l ∧ s = ⟨[(8, .c (.sl r q 4 0 l.length)), (9, I l.length), (10, I i)], H, []⟩) (l.length + 1) (LK.intro l.length [8, 9, 10] [] (by omega) (by decide) (by simp (maxSteps := 4000000) [hd0, hfr, hout, hcl, hcd, delA_none, ha, ha_n, ha_d, ha_m]) ⟨0, by simp⟩) ?_
  rintro m s ⟨i, him, hinv, rfl⟩
  by_cases hi' : i < l.length
  case neg =>
    rw [List.drop_eq_nil_of_le (by omega)] at hinv
    simp (maxSteps := 4000000) [hd0, hfr, hout, hcl, hcd, delA_none, ha, ha_n, ha_d, ha_m, show ¬ (i : Int) < l.length by omega]
    simpa [unF] using hinv
  rw [List.drop_eq_getElem_cons hi'] at hinv
  simp only [unF] at hinv
  have w1 : IntKind.i64.wrap ((i : Int) + 1) = i + 1 := w64 (by omega) (by omega)
  simp (maxSteps := 4000000) [hd0, hfr, hout, hcl, hcd, delA_none, ha, ha_n, ha_d, ha_m, show (i : Int) < l.length by omega, hi', DUndo.enc]
  refine (impl_isKey _ _).useCK ?_
  by_cases c1 : inR l[i].key 0 31 = true
  case neg => simp only [Bool.not_eq_true] at c1; simp [uRange, c1] at hinv; simp (maxSteps := 4000000) [hd0, hfr, hout, hcl, hcd, delA_none, ha, ha_n, ha_d, ha_m, c1, hinv]
  simp (maxSteps := 4000000) [hd0, hfr, hout, hcl, hcd, delA_none, ha, ha_n, ha_d, ha_m, c1]
  refine (impl_isValue _ _).useCK ?_
  by_cases c3 : inR l[i].value 0 9999 = true
  case neg => simp only [Bool.not_eq_true] at c3; simp [uRange, c3] at hinv; simp (maxSteps := 4000000) [hd0, hfr, hout, hcl, hcd, delA_none, ha, ha_n, ha_d, ha_m, c3, hinv]
  have hv : uRange l[i] = true := by simp [uRange, c1, c3]
  rw [hv, if_neg (by simp)] at hinv
  rw [c3]
  cases hh : l[i].had <;> cases hg : l[i].gone <;> by_cases hz : l[i].value = 0 <;> simp [uForm, hh, hg, hz] at hinv <;> simp (maxSteps := 4000000) [hd0, hfr, hout, hcl, hcd, delA_none, ha, ha_n, ha_d, ha_m, hh, hg, hz, hinv, w1]
  all_goals refine LK.intro (m - 1) [8, 9, 10] [4] (by omega) (by decide) (by simp (maxSteps := 4000000) [hd0, hfr, hout, hcl, hcd, delA_none, ha, ha_n, ha_d, ha_m]) ⟨i + 1, by omega, hinv, by simp⟩
set_option maxHeartbeats 2000000 in
theorem spec_l6Undos (H : HH) {r q ix} {ts : List DTxn} (hix : ix < ts.length) (hb : ts[ix].undos.length ≤ 1048576) (ha : arrAt H r q = some (5, ts.map DTxn.enc)) : PFun Tryz.prog 180 [.c (.pt r q 5 ix 0)] H (I (undosF ts[ix].undos)) := by
  have hsub := arrAt_sub ha (i := ix) (f := 4) (row := ts[ix].enc) (by simp [hix]) rfl
  generalize hl : ts[ix].undos = l at *
  refine PFun.of [0, 2, 3, 4, 10, 17, 36, 57] Tryz.func180 rfl (by simp [Tryz.f180]) ?_
  intro d hd0 hfr hcl hout
  have hcd : ∀ n q, CleanH (hit [((d, n), q)]) H := fun n q => hcl.at
  have ha_n : ∀ n, ¬ (d, n) = r := fun n => nm_ne (ne_of_arr hfr ha)
  have ha_d : ¬ r.1 = d := ne_of_arr hfr ha
  have ha_m : ∀ n, ¬ r = (d, n) := fun n => nm_ne' (ne_of_arr hfr ha)
  simp (maxSteps := 4000000) [hd0, hfr, hout, hcl, hcd, delA_none, ha, ha_n, ha_d, ha_m, Tryz.f180]
  by_cases h12 : 60 < l.length
  case pos => simp (maxSteps := 4000000) [hd0, hfr, hout, hcl, hcd, delA_none, ha, ha_n, ha_d, ha_m, hix, DTxn.enc, hl, show 60 < (l.length : Int) by omega, undosF, h12]
  have hF : undosF l = unF l := by simp [undosF, h12]
  rw [hF]
  simp (maxSteps := 4000000) [hd0, hfr, hout, hcl, hcd, delA_none, ha, ha_n, ha_d, ha_m, hix, DTxn.enc, hl, show ¬ 60 < (l.length : Int) by omega]
  refine LoopK.intro (fun m s => ∃ i : Nat, i + m = l.length ∧ unF (l.drop i) = unF l ∧ s = ⟨[(0, .c (.pt r q 5 ix 0)), (3, I i)], H, []⟩) (l.length + 1) (LK.intro l.length [0, 3] [] (by omega) (by decide) (by simp (maxSteps := 4000000) [hd0, hfr, hout, hcl, hcd, delA_none, ha, ha_n, ha_d, ha_m]) ⟨0, by simp⟩) ?_
  rintro m s ⟨i, him, hinv, rfl⟩
  by_cases hi' : i < l.length
  case neg =>
    rw [List.drop_eq_nil_of_le (by omega)] at hinv
    simp (maxSteps := 4000000) [hd0, hfr, hout, hcl, hcd, delA_none, ha, ha_n, ha_d, ha_m, hix, DTxn.enc, hl, show ¬ (i : Int) < l.length by omega]
    simpa [unF] using hinv
  rw [List.drop_eq_getElem_cons hi'] at hinv
  simp only [unF] at hinv
  have w1 : IntKind.i64.wrap ((i : Int) + 1) = i + 1 := w64 (by omega) (by omega)
  simp (maxSteps := 4000000) [hd0, hfr, hout, hcl, hcd, delA_none, ha, ha_n, ha_d, ha_m, hix, DTxn.enc, hl, hsub, show (i : Int) < l.length by omega, hi', DUndo.enc]
  refine (spec_l1Key _ _).useCK ?_
  by_cases c1 : inR l[i].key 0 31 = true
  case neg => simp only [Bool.not_eq_true] at c1; simp [uRange, c1] at hinv; simp (maxSteps := 4000000) [hd0, hfr, hout, hcl, hcd, delA_none, ha, ha_n, ha_d, ha_m, c1, hinv]
  simp (maxSteps := 4000000) [hd0, hfr, hout, hcl, hcd, delA_none, ha, ha_n, ha_d, ha_m, c1]
  refine (spec_l1Value _ _).useCK ?_
  by_cases c3 : inR l[i].value 0 9999 = true
  case neg => simp only [Bool.not_eq_true] at c3; simp [uRange, c3] at hinv; simp (maxSteps := 4000000) [hd0, hfr, hout, hcl, hcd, delA_none, ha, ha_n, ha_d, ha_m, c3, hinv]
  have hv : uRange l[i] = true := by simp [uRange, c1, c3]
  rw [hv, if_neg (by simp)] at hinv
  rw [c3]
  cases hh : l[i].had <;> cases hg : l[i].gone <;> by_cases hz : l[i].value = 0 <;> simp [uForm, hh, hg, hz] at hinv <;> simp (maxSteps := 4000000) [hd0, hfr, hout, hcl, hcd, delA_none, ha, ha_n, ha_d, ha_m, hh, hg, hz, hinv, w1]
  all_goals refine LK.intro (m - 1) [0, 3] [4] (by omega) (by decide) (by simp (maxSteps := 4000000) [hd0, hfr, hout, hcl, hcd, delA_none, ha, ha_n, ha_d, ha_m]) ⟨i + 1, by omega, hinv, by simp⟩
end Go.Proofs.YtnlbjfdmjlnlgaaGreat


namespace Go.Proofs.YtnlbjfdmjlnlgaaGreat
open Go Go.Px Go.RowKit Go.Proofs
set_option linter.unnecessarySimpa false
set_option linter.unusedVariables false
set_option linter.unusedSimpArgs false
set_option maxRecDepth 100000
set_option maxHeartbeats 1000000
attribute [-simp] Int.not_le Int.not_lt

theorem slices_IndexFunc_Undo (H : HH) {r q n} {l : List DUndo} {g caps} {P : DUndo → Bool} (hb : l.length ≤ 1048576) (hn : n ≤ l.length) (ha : arrAt H r q = some (4, l.map DUndo.enc)) (hcaps : ∀ c ∈ caps, isRef c = true ∨ ∃ y, c = .v y ∧ flat y = true) (hg : tfunc Tryz.prog g = true)
    (hf : ∀ i (hi : i < l.length), PFun Tryz.prog g ([.a l[i].enc] ++ caps.map T.c) H (B (P l[i]))) : PFun Tryz.prog 168 [.c (.sl r q 4 0 n), .c (.fn g caps)] H (I (idxF P (l.take n))) := by
  refine PFun.of [0, 1, 4, 5, 7, 8, 9, 16] Tryz.func168 rfl (by simp [Tryz.f168]) ?_
  intro d hd0 hfr hcl hout
  have hcd : ∀ n q, CleanH (hit [((d, n), q)]) H := fun n q => hcl.at
  have ha_n : ∀ n, ¬ (d, n) = r := fun n => nm_ne (ne_of_arr hfr ha)
  have ha_d : ¬ r.1 = d := ne_of_arr hfr ha
  have ha_m : ∀ n, ¬ r = (d, n) := fun n => nm_ne' (ne_of_arr hfr ha)
  simp (maxSteps := 4000000) [hd0, hfr, hout, hcl, hcd, delA_none, ha, ha_n, ha_d, ha_m, Tryz.f168]
  refine LoopK.intro (fun m s => ∃ i : Nat, i + m = n ∧ (∀ x ∈ (l.take n).take i, P x = false) ∧ s = ⟨[(0, .c (.sl r q 4 0 n)), (1, .c (.fn g caps)), (7, I n), (8, I i)], H, []⟩) (n + 1)
    (LK.intro n [0, 1, 7, 8] [] (by omega) (by decide) (by simp (maxSteps := 4000000) [hd0, hfr, hout, hcl, hcd, delA_none, ha, ha_n, ha_d, ha_m]) ⟨0, by simp⟩) ?_
  rintro m s ⟨i, him, hP, rfl⟩
  have hd := idxF_drop hP
  by_cases hi0 : i < n
  · have hi' : i < l.length := by omega
    have w1 : IntKind.i64.wrap ((i : Int) + 1) = i + 1 := w64 (by omega) (by omega)
    have hget : (l.take n)[i]'(by simp; omega) = l[i] := by simp
    rw [List.drop_eq_getElem_cons (show i < (l.take n).length by simp; omega), hget] at hd
    simp (maxSteps := 4000000) [hd0, hfr, hout, hcl, hcd, delA_none, ha, ha_n, ha_d, ha_m, show (i : Int) < n by omega, hi', DUndo.enc]
    refine ⟨⟨hcaps, hg⟩, ?_⟩
    refine (hf i hi').useCK ?_
    by_cases hp : P l[i] = true
    · have hr : idxF P (l.take n) = i := by simp [idxF, hp] at hd; exact hd
      simp (maxSteps := 4000000) [hd0, hfr, hout, hcl, hcd, delA_none, ha, ha_n, ha_d, ha_m, hp, hr]
    · simp only [Bool.not_eq_true] at hp
      simp (maxSteps := 4000000) [hd0, hfr, hout, hcl, hcd, delA_none, ha, ha_n, ha_d, ha_m, hp, w1]
      refine LK.intro (m - 1) [0, 1, 7, 8] [] (by omega) (by decide) (by simp (maxSteps := 4000000) [hd0, hfr, hout, hcl, hcd, delA_none, ha, ha_n, ha_d, ha_m]) ⟨i + 1, by omega, fun x hx => ?_, by simp⟩
      rw [List.take_succ_eq_append_getElem (show i < (l.take n).length by simp; omega), hget] at hx
      rcases List.mem_append.1 hx with hx | hx
      · exact hP x hx
      · simp at hx; rw [hx]; exact hp
  · have : i = n := by omega
    subst this
    rw [List.drop_eq_nil_of_le (by simp; omega)] at hd
    have hr : idxF P (l.take i) = -1 := by simp [idxF] at hd; exact hd
    simp (maxSteps := 4000000) [hd0, hfr, hout, hcl, hcd, delA_none, ha, ha_n, ha_d, ha_m, hr]
theorem slices_ContainsFunc_Undo (H : HH) {r q n} {l : List DUndo} {g caps} {P : DUndo → Bool} (hb : l.length ≤ 1048576) (hn : n ≤ l.length) (ha : arrAt H r q = some (4, l.map DUndo.enc)) (hcaps : ∀ c ∈ caps, isRef c = true ∨ ∃ y, c = .v y ∧ flat y = true) (hg : tfunc Tryz.prog g = true)
    (hf : ∀ i (hi : i < l.length), PFun Tryz.prog g ([.a l[i].enc] ++ caps.map T.c) H (B (P l[i]))) : PFun Tryz.prog 114 [.c (.sl r q 4 0 n), .c (.fn g caps)] H (B ((l.take n).any P)) := by
  refine PFun.of [0, 1, 4] Tryz.func114 rfl (by simp [Tryz.f114]) ?_
  intro d hd0 hfr hcl hout
  have hcd : ∀ n q, CleanH (hit [((d, n), q)]) H := fun n q => hcl.at
  have ha_n : ∀ n, ¬ (d, n) = r := fun n => nm_ne (ne_of_arr hfr ha)
  have ha_d : ¬ r.1 = d := ne_of_arr hfr ha
  have ha_m : ∀ n, ¬ r = (d, n) := fun n => nm_ne' (ne_of_arr hfr ha)
  simp (maxSteps := 4000000) [hd0, hfr, hout, hcl, hcd, delA_none, ha, ha_n, ha_d, ha_m, Tryz.f114]
  refine (slices_IndexFunc_Undo _ hb hn ha hcaps hg hf).useCK ?_
  simp (maxSteps := 4000000) [hd0, hfr, hout, hcl, hcd, delA_none, ha, ha_n, ha_d, ha_m]
  exact idxF_any
theorem slices_IndexFunc_Version (H : HH) {r q n} {l : List DVersion} {g caps} {P : DVersion → Bool} (hb : l.length ≤ 1048576) (hn : n ≤ l.length) (ha : arrAt H r q = some (4, l.map DVersion.enc)) (hcaps : ∀ c ∈ caps, isRef c = true ∨ ∃ y, c = .v y ∧ flat y = true) (hg : tfunc Tryz.prog g = true)
    (hf : ∀ i (hi : i < l.length), PFun Tryz.prog g ([.a l[i].enc] ++ caps.map T.c) H (B (P l[i]))) : PFun Tryz.prog 166 [.c (.sl r q 4 0 n), .c (.fn g caps)] H (I (idxF P (l.take n))) := by
  refine PFun.of [0, 1, 4, 5, 7, 8, 9, 16] Tryz.func166 rfl (by simp [Tryz.f166]) ?_
  intro d hd0 hfr hcl hout
  have hcd : ∀ n q, CleanH (hit [((d, n), q)]) H := fun n q => hcl.at
  have ha_n : ∀ n, ¬ (d, n) = r := fun n => nm_ne (ne_of_arr hfr ha)
  have ha_d : ¬ r.1 = d := ne_of_arr hfr ha
  have ha_m : ∀ n, ¬ r = (d, n) := fun n => nm_ne' (ne_of_arr hfr ha)
  simp (maxSteps := 4000000) [hd0, hfr, hout, hcl, hcd, delA_none, ha, ha_n, ha_d, ha_m, Tryz.f166]
  refine LoopK.intro (fun m s => ∃ i : Nat, i + m = n ∧ (∀ x ∈ (l.take n).take i, P x = false) ∧ s = ⟨[(0, .c (.sl r q 4 0 n)), (1, .c (.fn g caps)), (7, I n), (8, I i)], H, []⟩) (n + 1)
    (LK.intro n [0, 1, 7, 8] [] (by omega) (by decide) (by simp (maxSteps := 4000000) [hd0, hfr, hout, hcl, hcd, delA_none, ha, ha_n, ha_d, ha_m]) ⟨0, by simp⟩) ?_
  rintro m s ⟨i, him, hP, rfl⟩
  have hd := idxF_drop hP
  by_cases hi0 : i < n
  · have hi' : i < l.length := by omega
    have w1 : IntKind.i64.wrap ((i : Int) + 1) = i + 1 := w64 (by omega) (by omega)
    have hget : (l.take n)[i]'(by simp; omega) = l[i] := by simp
    rw [List.drop_eq_getElem_cons (show i < (l.take n).length by simp; omega), hget] at hd
    simp (maxSteps := 4000000) [hd0, hfr, hout, hcl, hcd, delA_none, ha, ha_n, ha_d, ha_m, show (i : Int) < n by omega, hi', DVersion.enc]
    refine ⟨⟨hcaps, hg⟩, ?_⟩
    refine (hf i hi').useCK ?_
    by_cases hp : P l[i] = true
    · have hr : idxF P (l.take n) = i := by simp [idxF, hp] at hd; exact hd
      simp (maxSteps := 4000000) [hd0, hfr, hout, hcl, hcd, delA_none, ha, ha_n, ha_d, ha_m, hp, hr]
    · simp only [Bool.not_eq_true] at hp
      simp (maxSteps := 4000000) [hd0, hfr, hout, hcl, hcd, delA_none, ha, ha_n, ha_d, ha_m, hp, w1]
      refine LK.intro (m - 1) [0, 1, 7, 8] [] (by omega) (by decide) (by simp (maxSteps := 4000000) [hd0, hfr, hout, hcl, hcd, delA_none, ha, ha_n, ha_d, ha_m]) ⟨i + 1, by omega, fun x hx => ?_, by simp⟩
      rw [List.take_succ_eq_append_getElem (show i < (l.take n).length by simp; omega), hget] at hx
      rcases List.mem_append.1 hx with hx | hx
      · exact hP x hx
      · simp at hx; rw [hx]; exact hp
  · have : i = n := by omega
    subst this
    rw [List.drop_eq_nil_of_le (by simp; omega)] at hd
    have hr : idxF P (l.take i) = -1 := by simp [idxF] at hd; exact hd
    simp (maxSteps := 4000000) [hd0, hfr, hout, hcl, hcd, delA_none, ha, ha_n, ha_d, ha_m, hr]
theorem slices_ContainsFunc_Version (H : HH) {r q n} {l : List DVersion} {g caps} {P : DVersion → Bool} (hb : l.length ≤ 1048576) (hn : n ≤ l.length) (ha : arrAt H r q = some (4, l.map DVersion.enc)) (hcaps : ∀ c ∈ caps, isRef c = true ∨ ∃ y, c = .v y ∧ flat y = true) (hg : tfunc Tryz.prog g = true)
    (hf : ∀ i (hi : i < l.length), PFun Tryz.prog g ([.a l[i].enc] ++ caps.map T.c) H (B (P l[i]))) : PFun Tryz.prog 109 [.c (.sl r q 4 0 n), .c (.fn g caps)] H (B ((l.take n).any P)) := by
  refine PFun.of [0, 1, 4] Tryz.func109 rfl (by simp [Tryz.f109]) ?_
  intro d hd0 hfr hcl hout
  have hcd : ∀ n q, CleanH (hit [((d, n), q)]) H := fun n q => hcl.at
  have ha_n : ∀ n, ¬ (d, n) = r := fun n => nm_ne (ne_of_arr hfr ha)
  have ha_d : ¬ r.1 = d := ne_of_arr hfr ha
  have ha_m : ∀ n, ¬ r = (d, n) := fun n => nm_ne' (ne_of_arr hfr ha)
  simp (maxSteps := 4000000) [hd0, hfr, hout, hcl, hcd, delA_none, ha, ha_n, ha_d, ha_m, Tryz.f109]
  refine (slices_IndexFunc_Version _ hb hn ha hcaps hg hf).useCK ?_
  simp (maxSteps := 4000000) [hd0, hfr, hout, hcl, hcd, delA_none, ha, ha_n, ha_d, ha_m]
  exact idxF_any
theorem slices_IndexFunc_Txn (H : HH) {r q n} {l : List DTxn} {g caps} {P : DTxn → Bool} (hb : l.length ≤ 1048576) (hn : n ≤ l.length) (ha : arrAt H r q = some (5, l.map DTxn.enc)) (hcaps : ∀ c ∈ caps, isRef c = true ∨ ∃ y, c = .v y ∧ flat y = true) (hg : tfunc Tryz.prog g = true)
    (hf : ∀ i (hi : i < l.length), PFun Tryz.prog g ([.a [.v (.int .i64 l[i].id_), .v (.int .i64 l[i].at_), .v (.int .i64 l[i].state), .v (.int .i64 l[i].done), .sl r (q ++ [(i, 4)]) 4 0 l[i].undos.length]] ++ caps.map T.c) H (B (P l[i]))) : PFun Tryz.prog 125 [.c (.sl r q 5 0 n), .c (.fn g caps)] H (I (idxF P (l.take n))) := by
  refine PFun.of [0, 1, 4, 5, 7, 8, 9, 16] Tryz.func125 rfl (by simp [Tryz.f125]) ?_
  intro d hd0 hfr hcl hout
  have hcd : ∀ n q, CleanH (hit [((d, n), q)]) H := fun n q => hcl.at
  have ha_n : ∀ n, ¬ (d, n) = r := fun n => nm_ne (ne_of_arr hfr ha)
  have ha_d : ¬ r.1 = d := ne_of_arr hfr ha
  have ha_m : ∀ n, ¬ r = (d, n) := fun n => nm_ne' (ne_of_arr hfr ha)
  simp (maxSteps := 4000000) [hd0, hfr, hout, hcl, hcd, delA_none, ha, ha_n, ha_d, ha_m, Tryz.f125]
  refine LoopK.intro (fun m s => ∃ i : Nat, i + m = n ∧ (∀ x ∈ (l.take n).take i, P x = false) ∧ s = ⟨[(0, .c (.sl r q 5 0 n)), (1, .c (.fn g caps)), (7, I n), (8, I i)], H, []⟩) (n + 1)
    (LK.intro n [0, 1, 7, 8] [] (by omega) (by decide) (by simp (maxSteps := 4000000) [hd0, hfr, hout, hcl, hcd, delA_none, ha, ha_n, ha_d, ha_m]) ⟨0, by simp⟩) ?_
  rintro m s ⟨i, him, hP, rfl⟩
  have hd := idxF_drop hP
  by_cases hi0 : i < n
  · have hi' : i < l.length := by omega
    have w1 : IntKind.i64.wrap ((i : Int) + 1) = i + 1 := w64 (by omega) (by omega)
    have hget : (l.take n)[i]'(by simp; omega) = l[i] := by simp
    rw [List.drop_eq_getElem_cons (show i < (l.take n).length by simp; omega), hget] at hd
    simp (maxSteps := 4000000) [hd0, hfr, hout, hcl, hcd, delA_none, ha, ha_n, ha_d, ha_m, show (i : Int) < n by omega, hi', DTxn.enc]
    refine ⟨⟨hcaps, hg⟩, ?_⟩
    refine (hf i hi').useCK ?_
    by_cases hp : P l[i] = true
    · have hr : idxF P (l.take n) = i := by simp [idxF, hp] at hd; exact hd
      simp (maxSteps := 4000000) [hd0, hfr, hout, hcl, hcd, delA_none, ha, ha_n, ha_d, ha_m, hp, hr]
    · simp only [Bool.not_eq_true] at hp
      simp (maxSteps := 4000000) [hd0, hfr, hout, hcl, hcd, delA_none, ha, ha_n, ha_d, ha_m, hp, w1]
      refine LK.intro (m - 1) [0, 1, 7, 8] [] (by omega) (by decide) (by simp (maxSteps := 4000000) [hd0, hfr, hout, hcl, hcd, delA_none, ha, ha_n, ha_d, ha_m]) ⟨i + 1, by omega, fun x hx => ?_, by simp⟩
      rw [List.take_succ_eq_append_getElem (show i < (l.take n).length by simp; omega), hget] at hx
      rcases List.mem_append.1 hx with hx | hx
      · exact hP x hx
      · simp at hx; rw [hx]; exact hp
  · have : i = n := by omega
    subst this
    rw [List.drop_eq_nil_of_le (by simp; omega)] at hd
    have hr : idxF P (l.take i) = -1 := by simp [idxF] at hd; exact hd
    simp (maxSteps := 4000000) [hd0, hfr, hout, hcl, hcd, delA_none, ha, ha_n, ha_d, ha_m, hr]
theorem slices_ContainsFunc_Txn (H : HH) {r q n} {l : List DTxn} {g caps} {P : DTxn → Bool} (hb : l.length ≤ 1048576) (hn : n ≤ l.length) (ha : arrAt H r q = some (5, l.map DTxn.enc)) (hcaps : ∀ c ∈ caps, isRef c = true ∨ ∃ y, c = .v y ∧ flat y = true) (hg : tfunc Tryz.prog g = true)
    (hf : ∀ i (hi : i < l.length), PFun Tryz.prog g ([.a [.v (.int .i64 l[i].id_), .v (.int .i64 l[i].at_), .v (.int .i64 l[i].state), .v (.int .i64 l[i].done), .sl r (q ++ [(i, 4)]) 4 0 l[i].undos.length]] ++ caps.map T.c) H (B (P l[i]))) : PFun Tryz.prog 111 [.c (.sl r q 5 0 n), .c (.fn g caps)] H (B ((l.take n).any P)) := by
  refine PFun.of [0, 1, 4] Tryz.func111 rfl (by simp [Tryz.f111]) ?_
  intro d hd0 hfr hcl hout
  have hcd : ∀ n q, CleanH (hit [((d, n), q)]) H := fun n q => hcl.at
  have ha_n : ∀ n, ¬ (d, n) = r := fun n => nm_ne (ne_of_arr hfr ha)
  have ha_d : ¬ r.1 = d := ne_of_arr hfr ha
  have ha_m : ∀ n, ¬ r = (d, n) := fun n => nm_ne' (ne_of_arr hfr ha)
  simp (maxSteps := 4000000) [hd0, hfr, hout, hcl, hcd, delA_none, ha, ha_n, ha_d, ha_m, Tryz.f111]
  refine (slices_IndexFunc_Txn _ hb hn ha hcaps hg hf).useCK ?_
  simp (maxSteps := 4000000) [hd0, hfr, hout, hcl, hcd, delA_none, ha, ha_n, ha_d, ha_m]
  exact idxF_any
theorem impl_Txn_undoes_1 (H : HH) {r q k} {u : DUndo} (ha : arrAt H r q = some (1, [[.v (.int .i64 k)]])) : PFun Tryz.prog 167 [.a u.enc, .c (.pt r q 1 0 0)] H (B (decide (u.key = k))) := by
  refine PFun.of [1, 2, 3] Tryz.func167 rfl (by simp [Tryz.f167]) ?_
  intro d hd0 hfr hcl hout
  have hcd : ∀ n q, CleanH (hit [((d, n), q)]) H := fun n q => hcl.at
  have ha_n : ∀ n, ¬ (d, n) = r := fun n => nm_ne (ne_of_arr hfr ha)
  have ha_d : ¬ r.1 = d := ne_of_arr hfr ha
  have ha_m : ∀ n, ¬ r = (d, n) := fun n => nm_ne' (ne_of_arr hfr ha)
  simp (maxSteps := 4000000) [hd0, hfr, hout, hcl, hcd, delA_none, ha, ha_n, ha_d, ha_m, Tryz.f167, DUndo.enc]
def wroteF (l : List DUndo) (k : Int) : Bool := l.any fun u => decide (u.key = k)
def undoesF (t : DTxn) (k : Int) : Bool := decide (t.state = 1) && wroteF t.undos k
theorem impl_Txn_undoes (H : HH) {r q k} {t : DTxn} (hb : t.undos.length ≤ 1048576) (ha : arrAt H r q = some (4, t.undos.map DUndo.enc)) : PFun Tryz.prog 113 [.a [.v (.int .i64 t.id_), .v (.int .i64 t.at_), .v (.int .i64 t.state), .v (.int .i64 t.done), .sl r q 4 0 t.undos.length], I k] H (B (undoesF t k)) := by
  refine PFun.of [2, 3, 4] Tryz.func113 rfl (by simp [Tryz.f113]) ?_
  intro d hd0 hfr hcl hout
  have hcd : ∀ n q, CleanH (hit [((d, n), q)]) H := fun n q => hcl.at
  have ha_n : ∀ n, ¬ (d, n) = r := fun n => nm_ne (ne_of_arr hfr ha)
  have ha_d : ¬ r.1 = d := ne_of_arr hfr ha
  have ha_m : ∀ n, ¬ r = (d, n) := fun n => nm_ne' (ne_of_arr hfr ha)
  simp (maxSteps := 4000000) [hd0, hfr, hout, hcl, hcd, delA_none, ha, ha_n, ha_d, ha_m, Tryz.f113]
  by_cases hs : t.state = 1
  case neg => simp (maxSteps := 4000000) [hd0, hfr, hout, hcl, hcd, delA_none, ha, ha_n, ha_d, ha_m, hs, undoesF]
  have hC : ∀ H', arrAt H' (d, 3) [] = some (1, [[.v (.int .i64 k)]]) → arrAt H' r q = some (4, t.undos.map DUndo.enc) → PFun Tryz.prog 114 [.c (.sl r q 4 0 t.undos.length), .c (.fn 167 [.pt (d, 3) [] 1 0 0])] H' (B (wroteF t.undos k)) := fun H' h1 h2 => by
    have := slices_ContainsFunc_Undo H' (P := fun u => decide (u.key = k)) (g := 167) (caps := [.pt (d, 3) [] 1 0 0]) hb (Nat.le_refl _) h2 (by simp [isRef]) (by simp) (fun i hi => impl_Txn_undoes_1 H' h1)
    simpa [wroteF] using this
  simp (maxSteps := 4000000) [hd0, hfr, hout, hcl, hcd, delA_none, ha, ha_n, ha_d, ha_m, hs]
  refine (hC _ (by simp (maxSteps := 4000000) [hd0, hfr, hout, hcl, hcd, delA_none, ha, ha_n, ha_d, ha_m]) (by simp (maxSteps := 4000000) [hd0, hfr, hout, hcl, hcd, delA_none, ha, ha_n, ha_d, ha_m])).useCK ?_
  simp (maxSteps := 4000000) [hd0, hfr, hout, hcl, hcd, delA_none, ha, ha_n, ha_d, ha_m, hs, undoesF]
theorem impl_EngineFault_1 (H : HH) {r q cl c0 c2 c3} {v : DVersion} (ha : arrAt H r q = some (4, [[c0, .v (.int .i64 cl), c2, c3]])) : PFun Tryz.prog 110 [.a v.enc, .c (.pt r q 4 0 0)] H (B (decide (cl < v.at_))) := by
  refine PFun.of [1, 2, 3] Tryz.func110 rfl (by simp [Tryz.f110]) ?_
  intro d hd0 hfr hcl hout
  have hcd : ∀ n q, CleanH (hit [((d, n), q)]) H := fun n q => hcl.at
  have ha_n : ∀ n, ¬ (d, n) = r := fun n => nm_ne (ne_of_arr hfr ha)
  have ha_d : ¬ r.1 = d := ne_of_arr hfr ha
  have ha_m : ∀ n, ¬ r = (d, n) := fun n => nm_ne' (ne_of_arr hfr ha)
  simp (maxSteps := 4000000) [hd0, hfr, hout, hcl, hcd, delA_none, ha, ha_n, ha_d, ha_m, Tryz.f110, DVersion.enc]
theorem impl_EngineFault_3 (H : HH) {r q} {x u : DUndo} (ha : arrAt H r q = some (4, [u.enc])) : PFun Tryz.prog 115 [.a x.enc, .c (.pt r q 4 0 0)] H (B (decide (x.key = u.key))) := by
  refine PFun.of [1, 2, 3] Tryz.func115 rfl (by simp [Tryz.f115]) ?_
  intro d hd0 hfr hcl hout
  have hcd : ∀ n q, CleanH (hit [((d, n), q)]) H := fun n q => hcl.at
  have ha_n : ∀ n, ¬ (d, n) = r := fun n => nm_ne (ne_of_arr hfr ha)
  have ha_d : ¬ r.1 = d := ne_of_arr hfr ha
  have ha_m : ∀ n, ¬ r = (d, n) := fun n => nm_ne' (ne_of_arr hfr ha)
  simp (maxSteps := 4000000) [hd0, hfr, hout, hcl, hcd, delA_none, ha, ha_n, ha_d, ha_m, Tryz.f115, DUndo.enc]
theorem impl_EngineFault_2 (H : HH) {r q r1 q1 r2 q2 c} {t : DTxn} {f : DVersion} {k : Int} (hb : t.undos.length ≤ 1048576) (ha : arrAt H r q = some (4, t.undos.map DUndo.enc)) (hb1 : arrAt H r1 q1 = some (4, [f.enc])) (hb2 : arrAt H r2 q2 = some (2, [[.v (.int .i64 k), c]])) :
    PFun Tryz.prog 112 [.a [.v (.int .i64 t.id_), .v (.int .i64 t.at_), .v (.int .i64 t.state), .v (.int .i64 t.done), .sl r q 4 0 t.undos.length], .c (.pt r1 q1 4 0 0), .c (.pt r2 q2 2 0 0)] H (B (decide (t.id_ = f.txn) && undoesF t k)) := by
  refine PFun.of [1, 2, 3, 4] Tryz.func112 rfl (by simp [Tryz.f112]) ?_
  intro d hd0 hfr hcl hout
  have hcd : ∀ n q, CleanH (hit [((d, n), q)]) H := fun n q => hcl.at
  have ha_n : ∀ n, ¬ (d, n) = r := fun n => nm_ne (ne_of_arr hfr ha)
  have ha_d : ¬ r.1 = d := ne_of_arr hfr ha
  have ha_m : ∀ n, ¬ r = (d, n) := fun n => nm_ne' (ne_of_arr hfr ha)
  have hb1_n : ∀ n, ¬ (d, n) = r1 := fun n => nm_ne (ne_of_arr hfr hb1)
  have hb1_d : ¬ r1.1 = d := ne_of_arr hfr hb1
  have hb1_m : ∀ n, ¬ r1 = (d, n) := fun n => nm_ne' (ne_of_arr hfr hb1)
  have hb2_n : ∀ n, ¬ (d, n) = r2 := fun n => nm_ne (ne_of_arr hfr hb2)
  have hb2_d : ¬ r2.1 = d := ne_of_arr hfr hb2
  have hb2_m : ∀ n, ¬ r2 = (d, n) := fun n => nm_ne' (ne_of_arr hfr hb2)
  simp (maxSteps := 4000000) [hd0, hfr, hout, hcl, hcd, delA_none, ha, ha_n, ha_d, ha_m, hb1, hb1_n, hb1_d, hb1_m, hb2, hb2_n, hb2_d, hb2_m, Tryz.f112]
  by_cases hi : t.id_ = f.txn
  case neg => simp (maxSteps := 4000000) [hd0, hfr, hout, hcl, hcd, delA_none, ha, ha_n, ha_d, ha_m, hb1, hb1_n, hb1_d, hb1_m, hb2, hb2_n, hb2_d, hb2_m, hi, DVersion.enc]
  simp (maxSteps := 4000000) [hd0, hfr, hout, hcl, hcd, delA_none, ha, ha_n, ha_d, ha_m, hb1, hb1_n, hb1_d, hb1_m, hb2, hb2_n, hb2_d, hb2_m, eq_true hi, DVersion.enc]
  refine (impl_Txn_undoes _ (t := t) hb (by simp (maxSteps := 4000000) [hd0, hfr, hout, hcl, hcd, delA_none, ha, ha_n, ha_d, ha_m, hb1, hb1_n, hb1_d, hb1_m, hb2, hb2_n, hb2_d, hb2_m])).useCK ?_
  simp (maxSteps := 4000000) [hd0, hfr, hout, hcl, hcd, delA_none, ha, ha_n, ha_d, ha_m, hb1, hb1_n, hb1_d, hb1_m, hb2, hb2_n, hb2_d, hb2_m, eq_true hi, DVersion.enc]
def openF (l : List DVersion) (id : Int) : Bool := match l with | [] => false | v :: _ => decide (v.at_ = 0) && decide (v.txn = id)
theorem impl_isOpenOf (H : HH) {r q id} {l : List DVersion} (ha : arrAt H r q = some (4, l.map DVersion.enc)) : PFun Tryz.prog 104 [.c (.sl r q 4 0 l.length), I id] H (B (openF l id)) := by
  refine PFun.of [0, 1, 4] Tryz.func104 rfl (by simp [Tryz.f104]) ?_
  intro d hd0 hfr hcl hout
  have hcd : ∀ n q, CleanH (hit [((d, n), q)]) H := fun n q => hcl.at
  have ha_n : ∀ n, ¬ (d, n) = r := fun n => nm_ne (ne_of_arr hfr ha)
  have ha_d : ¬ r.1 = d := ne_of_arr hfr ha
  have ha_m : ∀ n, ¬ r = (d, n) := fun n => nm_ne' (ne_of_arr hfr ha)
  simp (maxSteps := 4000000) [hd0, hfr, hout, hcl, hcd, delA_none, ha, ha_n, ha_d, ha_m, Tryz.f104]
  cases l with
  | nil => simp (maxSteps := 4000000) [hd0, hfr, hout, hcl, hcd, delA_none, ha, ha_n, ha_d, ha_m, openF]
  | cons v l =>
    by_cases hz : v.at_ = 0
    · simp (maxSteps := 4000000) [hd0, hfr, hout, hcl, hcd, delA_none, ha, ha_n, ha_d, ha_m, openF, DVersion.enc, eq_true hz]
    · simp (maxSteps := 4000000) [hd0, hfr, hout, hcl, hcd, delA_none, ha, ha_n, ha_d, ha_m, openF, DVersion.enc, eq_false hz]
end Go.Proofs.YtnlbjfdmjlnlgaaGreat


namespace Go.Px
open Go.RowKit
/-- ahead of a loop: a temporary that owns gets a name -/
theorem LoopK.bind {cx kv c t H lg K i z els} (hi : getT t i = some (.c (.own z els))) (hl : Px.look H (cx.d, i) = none) (h : LoopK cx kv c ⟨setT t i (.c (.sl (cx.d, i) [] z 0 els.length)), ((cx.d, i), .own z els) :: H, lg⟩ K) : LoopK cx kv c ⟨t, H, lg⟩ K :=
  SCode.ghost (fun e a w hd hr => by rw [← hd] at hl ⊢; exact Rel.bind hr hi hl) h
theorem wU64 {x : Int} (h1 : 0 ≤ x) (h2 : x ≤ 9223372036854775807) : IntKind.u64.wrap x = x := by
  have e1 : (2 : Int) ^ 64 = 18446744073709551616 := rfl
  simp only [IntKind.wrap, IntKind.bits, IntKind.signed, Bool.false_and, e1]
  simp
  omega
end Go.Px


namespace Go.Px
open Go.RowKit
set_option linter.unusedVariables false
set_option linter.unusedSimpArgs false
set_option linter.constructorNameAsVariable false
/-- one argument of a list stands for another -/
theorem TReps.swap {R R' : Cell → Value → Prop} {w : World} {K : Cell → Prop} {x y : T} {Fy} (hR : ∀ c x, isRef c = true → ¬ K c → R c x → R' c x) (hxy : ∀ v F, TRep R w x v F → F = [] ∧ ∃ F1, TRep R' w y v F1 ∧ F1.Sublist Fy) :
    ∀ {l vs F} {i : Nat}, TReps R w l vs F → l[i]? = some x → (∀ j z, j ≠ i → l[j]? = some z → z.clean K) → ∃ F' F1, TReps R' w (l.set i y) vs F' ∧ F'.Perm (F1 ++ F) ∧ F1.Sublist Fy
  | [], _, _, i, _, hi, _ => by simp at hi
  | z :: l, _, _, 0, .cons (v := v) (F := F) (vs := vs) (G := G) h1 h2, hi, hc => by
    simp at hi
    subst hi
    obtain ⟨rfl, F1, h3, h4⟩ := hxy _ _ h1
    have : TReps R' w l vs G := by
      have hall : T.cleans K l := by
        have : ∀ (l : List T), (∀ z ∈ l, z.clean K) → T.cleans K l := by
          intro l; induction l with
          | nil => intro _; trivial
          | cons a t ih => intro h; exact ⟨h a (by simp), ih (fun z hz => h z (by simp [hz]))⟩
        refine this l (fun z hz => ?_)
        obtain ⟨j, hj⟩ := List.mem_iff_getElem?.1 hz
        exact hc (j + 1) z (by omega) (by simpa using hj)
      cases (TRep.t h2).mono (R' := R') (w' := w) (K := K) hall hR (fun _ _ => rfl) with
      | t h => exact h
    exact ⟨F1 ++ G, F1, .cons h3 this, by simp, h4⟩
  | z :: l, _, _, i + 1, .cons (v := v) (F := F) (vs := vs) (G := G) h1 h2, hi, hc => by
    obtain ⟨F', F1, k1, k2, k3⟩ := TReps.swap hR hxy h2 (by simpa using hi) (fun j z' hj hz => hc (j + 1) z' (by omega) (by simpa using hz))
    refine ⟨F ++ F', F1, .cons (h1.mono (hc 0 z (by omega) (by simp)) hR (fun _ _ => rfl)) k1, ?_, k3⟩
    refine (List.Perm.append_left F k2).trans ?_
    rw [← List.append_assoc, ← List.append_assoc]
    exact List.Perm.append_right G List.perm_append_comm

theorem cleans_get {K : Cell → Prop} : ∀ {l : List T} {i : Nat}, T.cleans K (l.set i .u) → ∀ (j : Nat) y, j ≠ i → l[j]? = some y → y.clean K
  | [], _, _, j, y, _, h => by simp at h
  | z :: l, 0, hc, j, y, hj, h => by
    cases j with
    | zero => omega
    | succ j =>
      simp only [List.set_cons_zero, T.cleans] at hc
      have : ∀ {l : List T}, T.cleans K l → ∀ z ∈ l, z.clean K := by
        intro l; induction l with
        | nil => simp
        | cons a t ih => intro h z hz; rcases List.mem_cons.1 hz with rfl | hz; exact h.1; exact ih h.2 z hz
      exact this hc.2 y (List.mem_of_getElem? (by simpa using h))
  | z :: l, i + 1, hc, j, y, hj, h => by
    simp only [List.set_cons_succ, T.cleans] at hc
    cases j with
    | zero => simp at h; subst h; exact hc.1
    | succ j => exact cleans_get hc.2 j y (by omega) (by simpa using h)
/-- a call that takes over a local array of the caller's -/
theorem PUpd.takeCK {P f args H x H' d} {KP : St → Prop} {t' o lg0 i r z els} (h : PUpd P f (args.set i (.c (.own z els))) (delH H r) x H') (hd : d ≠ 0) (hi : args[i]? = some (.c (.sl r [] z 0 els.length))) (hr : r.1 = d) (hl : look H r = some (.own z els))
    (hcl : CleanH (hit [(r, [])]) H) (hot : T.cleans (hit [(r, [])]) (args.set i .u)) (hoc : OcleanT (hit [(r, [])]) t') (hq : KP ⟨putD (t'.filter (fun en => en.2.keep r [])) o x, H', lg0⟩) : PCalls P f args H (CK d KP t' o lg0) := by
  intro g w β F FA vs hg hh ha hn hlow
  have h0 : r.1 ≠ 0 := by rw [hr]; exact hd
  obtain ⟨Fr, G0, h1, h2, h3⟩ := hh.del h0 hl
  have hK : ∀ y x, isRef y = true → ¬ hit [(r, [])] y → VP w β H y x → VP w β (delH H r) y x := VP.map VP1.del
  have hcd : Clean (hit [(r, [])]) (.own z els) := hcl _ (look_mem hl)
  have hxy : ∀ v F, TRep (VP w β H) w (.c (.sl r [] z 0 els.length)) v F → F = [] ∧ ∃ F1, TRep (VP w β (delH H r)) w (.c (.own z els)) v F1 ∧ F1.Sublist Fr := by
    intro v F hv
    have hF : F = [] := hv.bare rfl
    subst hF
    refine ⟨rfl, ?_⟩
    have hv := trep_ref hv rfl
    obtain ⟨c', els', hd', e1, e2, e3, e4, e5⟩ := hv
    rw [hl] at e1; cases e1
    simp [Cell.get] at e2; subst e2
    simp [hdr] at e3; subst e3
    obtain ⟨F0', r1, r2⟩ := rep_drop h2 e5 (by omega)
    rw [List.drop_zero] at r1
    exact ⟨F0', .c (r1.mono hcd hK (fun _ _ => rfl)), r2⟩
  obtain ⟨F', F1', k1, k2, k3⟩ := TReps.swap hK hxy ha hi (cleans_get hot)
  have h4 := h3.mono (fun _ _ => rfl) (fun en he => hcl en (mem_delH he)) hK (fun _ _ => rfl) (fun _ _ => rfl)
  have hsub : ∀ b ∈ G0 ++ F', b ∈ F ++ FA := by
    intro b hb
    rcases List.mem_append.1 hb with hb | hb
    · exact List.mem_append.2 (.inl (h1.symm.subset (by simp [hb])))
    · rcases List.mem_append.1 (k2.subset hb) with hb | hb
      · exact List.mem_append.2 (.inl (h1.symm.subset (by simp [k3.subset hb])))
      · exact List.mem_append.2 (.inr hb)
  have hnd : (G0 ++ F').Nodup := by
    have e1 : (G0 ++ F').Perm ((F1' ++ G0) ++ FA) := by
      refine (List.Perm.append_left G0 k2).trans ?_
      rw [← List.append_assoc]
      exact List.Perm.append_right FA List.perm_append_comm
    have e2 : ((F1' ++ G0) ++ FA).Sublist ((Fr ++ G0) ++ FA) := List.Sublist.append (List.Sublist.append k3 (.refl _)) (.refl _)
    exact e1.nodup_iff.2 (List.Nodup.sublist e2 ((List.Perm.append_right FA h1).nodup_iff.1 hn))
  refine (h g w β G0 F' vs hg h4 k1 hnd (fun b hb => hlow b (hsub b hb))).mono ?_
  rintro en w' ⟨y, T, H1, lg, F1, FT, rfl, ⟨rfl, rfl, rfl⟩, m1, m2, m3, m4, m5⟩
  refine ⟨y, T, H1, [(r, [])], F1, FT, rfl, ?_, m1, m2, m3, ?_, fun y x hy hv => m5 y x (by intro hh; cases y <;> simp [hit1] at hh) (VP1.del y x hy hv)⟩
  · rw [CK_mk]
    refine ⟨by simpa using hoc, ?_⟩
    have : [(r, ([] : Path))].filter (fun e => decide (e.1.1 ≠ d)) = [] := by simp [hr]
    rw [this, List.nil_append]
    simpa [keepL] using hq
  · exact ⟨m4.os, m4.tape, m4.output, m4.size, fun b hb hm => m4.same b hb (fun h' => hm (hsub _ h')), fun b hb => (m4.new b hb).imp (fun h' => hsub _ h') id⟩
theorem PFun.takeCK {P f args H x d} {KP : St → Prop} {t' o lg0 i r z els} (h : PFun P f (args.set i (.c (.own z els))) (delH H r) x) (hd : d ≠ 0) (hi : args[i]? = some (.c (.sl r [] z 0 els.length))) (hr : r.1 = d) (hl : look H r = some (.own z els))
    (hcl : CleanH (hit [(r, [])]) H) (hot : T.cleans (hit [(r, [])]) (args.set i .u)) (hoc : OcleanT (hit [(r, [])]) t') (hq : KP ⟨putD (t'.filter (fun en => en.2.keep r [])) o x, delH H r, lg0⟩) : PCalls P f args H (CK d KP t' o lg0) :=
  PUpd.takeCK h.upd hd hi hr hl hcl hot hoc hq
theorem PFun.own0 {P f rest H x z} (h : PFun P f (.c (.own z []) :: rest) H x) : PFun P f (.c (.own 0 []) :: rest) H x := by
  intro g w β F FA vs hg hh ha hn hlow
  refine h g w β F FA vs hg hh ?_ hn hlow
  cases ha with
  | cons h1 h2 =>
    refine .cons ?_ h2
    cases h1 with
    | c hr =>
      rcases own_inv hr with ⟨-, rfl, A, rfl⟩ | ⟨b, off, cap, arr, el, F1, vs, fr, rfl, rfl, hz, -⟩
      · exact .c (.nil z A)
      · omega
/-- ahead of a drawn region: a temporary takes over the local array that it refers to -/
theorem DrawK.take {cx kv id ops s K} (i : Nat) (h : takeK cx.d s i (fun s' => DrawK cx kv id ops s' K)) : DrawK cx kv id ops s K := by
  obtain ⟨s', hk, hg⟩ := takeK_ghost h
  exact SCode.ghost (fun e a w hd hr => hg e a w hd hr) hk
def FTailA (cx : Cx) (ops : Array Oper) (m da : Nat) (zl : List Cell) (keep : List Nat) (H : HH) (lg : List (Nm × Path)) (KS : St → Prop) (val : List (Nat × T)) (cs : List Nat) : Prop :=
  (∀ j ∈ da :: keep, j ∉ cs) ∧ POps' cx ops (List.range' (m + 1) (ops.size - (m + 1))) KS ⟨(da, .c (.pt (cx.d, da) [] zl.length 0 0)) :: live keep val, ((cx.d, da), .own zl.length [zl]) :: H, lg⟩
theorem FTailA_mk {cx ops m da zl keep H lg KS val cs} : FTailA cx ops m da zl keep H lg KS val cs = ((∀ j ∈ da :: keep, j ∉ cs) ∧ POps' cx ops (List.range' (m + 1) (ops.size - (m + 1))) KS ⟨(da, .c (.pt (cx.d, da) [] zl.length 0 0)) :: live keep val, ((cx.d, da), .own zl.length [zl]) :: H, lg⟩) := rfl
attribute [simp] FTailA_mk
/-- behind a round: a temporary that owns gets a name -/
theorem LK.bind {d I n t H lg i z els} (hi : getT t i = some (.c (.own z els))) (hl : Px.look H (d, i) = none) (h : LK d I n ⟨setT t i (.c (.sl (d, i) [] z 0 els.length)), ((d, i), .own z els) :: H, lg⟩) : LK d I n ⟨t, H, lg⟩ := by
  obtain ⟨m, s', h1, h2, h3⟩ := h
  exact ⟨m, s', h1, Ghost.trans (fun e a w hd hr => by rw [← hd] at hl ⊢; exact Rel.bind hr hi hl) h2, h3⟩
end Go.Px


namespace Go.Proofs.YtnlbjfdmjlnlgaaGreat
open Go Go.Px Go.RowKit Go.Proofs
set_option linter.unnecessarySimpa false
set_option linter.unusedVariables false
set_option linter.unusedSimpArgs false
set_option maxRecDepth 100000
set_option maxHeartbeats 1000000
attribute [-simp] Int.not_le Int.not_lt
def rowP (l : List DRow) (k : Int) : Nat := (l.takeWhile fun r => decide (r.key < k)).length
def sortedR (l : List DRow) : Prop := ∀ i j (hij : i < j) (hj : j < l.length), l[i].key < l[j].key
theorem rowP_spec {k : Int} : ∀ (l : List DRow), rowP l k ≤ l.length ∧ (∀ j (hj : j < l.length), j < rowP l k → l[j].key < k) ∧ (∀ h : rowP l k < l.length, k ≤ l[rowP l k].key)
  | [] => ⟨by simp [rowP], fun j hj => by simp at hj, fun h => by simp [rowP] at h⟩
  | r :: l => by
    obtain ⟨h1, h2, h3⟩ := rowP_spec (k := k) l
    by_cases hr : r.key < k
    · have e : rowP (r :: l) k = rowP l k + 1 := by simp [rowP, hr]
      refine ⟨by simp [e]; omega, fun j hj hlt => ?_, fun h => ?_⟩
      · cases j with
        | zero => exact hr
        | succ j => simp at hj; exact h2 j hj (by omega)
      · simp only [e] at h ⊢
        simp at h
        simpa using h3 h
    · have e : rowP (r :: l) k = 0 := by simp [rowP, hr]
      refine ⟨by simp [e], fun j hj hlt => by omega, fun h => ?_⟩
      simp only [e]
      show k ≤ r.key
      omega
theorem rowP_high {l : List DRow} {k : Int} (hs : sortedR l) {j : Nat} (hj : j < l.length) (h : rowP l k ≤ j) : k ≤ l[j].key := by
  obtain ⟨h1, h2, h3⟩ := rowP_spec (k := k) l
  have h4 := h3 (by omega)
  rcases Nat.eq_or_lt_of_le h with e | e
  · simp only [e] at h4; exact h4
  · have := hs _ _ e hj; omega
def foundR (l : List DRow) (k : Int) : Bool := match l[rowP l k]? with | some r => decide (r.key = k) | none => false
theorem impl_Engine_row_1 (H : HH) {r q n} {k1 k2 : Int} : PFun Tryz.prog 188 [.a [.v (.int .i64 k1), .sl r q 4 0 n], I k2] H (I (IntKind.i64.wrap (k1 - k2))) := by
  refine PFun.of [1, 2, 4] Tryz.func188 rfl (by simp [Tryz.f188]) ?_
  intro d hd0 hfr hcl hout
  have hcd : ∀ n q, CleanH (hit [((d, n), q)]) H := fun n q => hcl.at
  simp (maxSteps := 4000000) [hd0, hfr, hout, hcl, hcd, delA_none, Tryz.f188]
def kOk (k : Int) : Prop := 0 ≤ k ∧ k ≤ 31
def keysOk (l : List DRow) : Prop := ∀ r ∈ l, kOk r.key
theorem slices_BinarySearchFunc_Row (H : HH) {r q} {l : List DRow} {k : Int} (hb : l.length ≤ 1048576) (hs : sortedR l) (hk : kOk k) (hks : keysOk l) (ha : arrAt H r q = some (2, l.map DRow.enc)) :
    PFun Tryz.prog 187 [.c (.sl r q 2 0 l.length), I k, .c (.fn 188 [])] H (.t [I (rowP l k), B (foundR l k)]) := by
  obtain ⟨hp1, hp2, hp3⟩ := rowP_spec (k := k) l
  have hhigh : ∀ j (hj : j < l.length), rowP l k ≤ j → k ≤ l[j].key := fun j hj h => rowP_high hs hj h
  have hf1 : ∀ h : rowP l k < l.length, foundR l k = decide (l[rowP l k].key = k) := fun h => by simp [foundR, h]
  have hf2 : ¬ rowP l k < l.length → foundR l k = false := fun h => by simp [foundR, show l[rowP l k]? = none by simp; omega]
  generalize rowP l k = p at *
  have hcmp : ∀ j (hj : j < l.length), IntKind.i64.wrap (l[j].key - k) = l[j].key - k := fun j hj => by
    have h1 := hks _ (List.getElem_mem hj); unfold kOk at h1 hk
    exact w64 (by omega) (by omega)
  refine PFun.of [0, 1, 2, 6, 7, 8, 9, 10, 11, 17, 31] Tryz.func187 rfl (by simp [Tryz.f187]) ?_
  intro d hd0 hfr hcl hout
  have hcd : ∀ n q, CleanH (hit [((d, n), q)]) H := fun n q => hcl.at
  have ha_n : ∀ n, ¬ (d, n) = r := fun n => nm_ne (ne_of_arr hfr ha)
  have ha_d : ¬ r.1 = d := ne_of_arr hfr ha
  have ha_m : ∀ n, ¬ r = (d, n) := fun n => nm_ne' (ne_of_arr hfr ha)
  simp (maxSteps := 4000000) [hd0, hfr, hout, hcl, hcd, delA_none, ha, ha_n, ha_d, ha_m, Tryz.f187]
  refine LoopK.intro (fun m s => ∃ lo : Nat, lo + m ≤ l.length ∧ lo ≤ p ∧ p ≤ lo + m ∧ s = ⟨[(0, .c (.sl r q 2 0 l.length)), (1, I k), (2, .c (.fn 188 [])), (8, I l.length), (9, I lo), (10, I ((lo + m : Nat) : Int))], H, []⟩) (l.length + 1)
    (LK.intro l.length [0, 1, 2, 8, 9, 10] [] (by omega) (by decide) (by simp (maxSteps := 4000000) [hd0, hfr, hout, hcl, hcd, delA_none, ha, ha_n, ha_d, ha_m]) ⟨0, by omega, by omega, by omega, by simp⟩) ?_
  rintro m s ⟨lo, h1, h2, h3, rfl⟩
  obtain ⟨hi, hhi⟩ : ∃ hi : Nat, hi = lo + m := ⟨_, rfl⟩
  rw [← hhi] at h1 h3 ⊢
  by_cases hlt : lo < hi
  · obtain ⟨mid, hmid⟩ : ∃ mid : Nat, mid = (lo + hi) / 2 := ⟨_, rfl⟩
    have w1 : IntKind.i64.wrap ((lo : Int) + hi) = lo + hi := w64 (by omega) (by omega)
    have w2 : IntKind.u64.wrap ((lo : Int) + hi) = lo + hi := wU64 (by omega) (by omega)
    have w3 : ((lo : Int) + hi).fdiv 2 = mid := by rw [Int.fdiv_eq_ediv_of_nonneg _ (by omega)]; omega
    have w4 : IntKind.i64.wrap (mid : Int) = mid := w64 (by omega) (by omega)
    have w5 : IntKind.i64.wrap ((mid : Int) + 1) = mid + 1 := w64 (by omega) (by omega)
    have hml : mid < l.length := by omega
    simp (maxSteps := 4000000) [hd0, hfr, hout, hcl, hcd, delA_none, ha, ha_n, ha_d, ha_m, show (lo : Int) < hi by omega, w1, w2, w3, w4, IntKind.bits, hml, DRow.enc]
    refine (impl_Engine_row_1 _).useCK ?_
    rw [hcmp mid hml]
    by_cases hc : l[mid].key < k
    · have hlt2 : mid < p := by
        rcases Nat.lt_or_ge mid (p) with h | h
        · exact h
        · have := hhigh mid hml h; omega
      simp (maxSteps := 4000000) [hd0, hfr, hout, hcl, hcd, delA_none, ha, ha_n, ha_d, ha_m, eq_true (show l[mid].key - k < 0 by omega), w5]
      refine LK.intro (hi - (mid + 1)) [0, 1, 2, 8, 9, 10] [] (by omega) (by decide) (by simp (maxSteps := 4000000) [hd0, hfr, hout, hcl, hcd, delA_none, ha, ha_n, ha_d, ha_m]) ⟨mid + 1, by omega, by omega, by omega, by simp; omega⟩
    · have hlt2 : p ≤ mid := by
        rcases Nat.lt_or_ge mid (p) with h | h
        · have := hp2 mid hml h; omega
        · exact h
      simp (maxSteps := 4000000) [hd0, hfr, hout, hcl, hcd, delA_none, ha, ha_n, ha_d, ha_m, eq_false (show ¬ l[mid].key - k < 0 by omega)]
      refine LK.intro (mid - lo) [0, 1, 2, 8, 9, 10] [] (by omega) (by decide) (by simp (maxSteps := 4000000) [hd0, hfr, hout, hcl, hcd, delA_none, ha, ha_n, ha_d, ha_m]) ⟨lo, by omega, by omega, by omega, by simp; omega⟩
  · have e1 : lo = p := by omega
    subst e1
    by_cases hpl : lo < l.length
    · have hf := hf1 hpl
      simp (maxSteps := 4000000) [hd0, hfr, hout, hcl, hcd, delA_none, ha, ha_n, ha_d, ha_m, eq_false (show ¬ (lo : Int) < hi by omega), eq_false hlt, eq_true (show (lo : Int) < l.length by omega), hpl, DRow.enc]
      refine (impl_Engine_row_1 _).useCK ?_
      rw [hcmp _ hpl]
      have hz : (l[lo].key - k = 0) = (l[lo].key = k) := by simp; omega
      simp (maxSteps := 4000000) [hd0, hfr, hout, hcl, hcd, delA_none, ha, ha_n, ha_d, ha_m, hf, hz]
    · have hf := hf2 hpl
      simp (maxSteps := 4000000) [hd0, hfr, hout, hcl, hcd, delA_none, ha, ha_n, ha_d, ha_m, eq_false (show ¬ (lo : Int) < hi by omega), eq_false hlt, eq_false (show ¬ (lo : Int) < l.length by omega), eq_false hpl, hf]
theorem impl_Engine_row (H : HH) {r1 q1 r2 q2 rows2 c0 c1 n1} {l : List DRow} {k : Int} (hb : l.length ≤ 1048576) (hs : sortedR l) (hk : kOk k) (hks : keysOk l) (ha : arrAt H r1 q1 = some (2, l.map DRow.enc)) (hb2 : arrAt H r2 q2 = some (5, rows2)) :
    PFun Tryz.prog 152 [.a [.v (.int .i64 c0), .v (.int .i64 c1), .sl r2 q2 5 0 n1, .sl r1 q1 2 0 l.length], I k] H (.t [I (rowP l k), B (foundR l k)]) := by
  refine PFun.of [1, 2, 4, 5] Tryz.func152 rfl (by simp [Tryz.f152]) ?_
  intro d hd0 hfr hcl hout
  have hcd : ∀ n q, CleanH (hit [((d, n), q)]) H := fun n q => hcl.at
  have ha_n : ∀ n, ¬ (d, n) = r1 := fun n => nm_ne (ne_of_arr hfr ha)
  have ha_d : ¬ r1.1 = d := ne_of_arr hfr ha
  have ha_m : ∀ n, ¬ r1 = (d, n) := fun n => nm_ne' (ne_of_arr hfr ha)
  have hb2_n : ∀ n, ¬ (d, n) = r2 := fun n => nm_ne (ne_of_arr hfr hb2)
  have hb2_d : ¬ r2.1 = d := ne_of_arr hfr hb2
  have hb2_m : ∀ n, ¬ r2 = (d, n) := fun n => nm_ne' (ne_of_arr hfr hb2)
  simp (maxSteps := 4000000) [hd0, hfr, hout, hcl, hcd, delA_none, ha, ha_n, ha_d, ha_m, hb2, hb2_n, hb2_d, hb2_m, Tryz.f152]
  refine (slices_BinarySearchFunc_Row _ hb hs hk hks (by simp (maxSteps := 4000000) [hd0, hfr, hout, hcl, hcd, delA_none, ha, ha_n, ha_d, ha_m, hb2, hb2_n, hb2_d, hb2_m])).useCK ?_
  simp (maxSteps := 4000000) [hd0, hfr, hout, hcl, hcd, delA_none, ha, ha_n, ha_d, ha_m, hb2, hb2_n, hb2_d, hb2_m]
def chainR (l : List DRow) (k : Int) : List DVersion := if foundR l k then (l.getD (rowP l k) ⟨0, []⟩).chain else []
/-- the chain of a key, as it is handed back -/
def chainT (r : Nm) (q : Path) (l : List DRow) (k : Int) : T := if foundR l k then .c (.sl r (q ++ [(rowP l k, 1)]) 4 0 (chainR l k).length) else .c (.own 4 [])
theorem foundR_lt {l : List DRow} {k : Int} (h : foundR l k = true) : rowP l k < l.length := by
  unfold foundR at h
  split at h
  · rename_i r hr; exact (List.getElem?_eq_some_iff.1 hr).1
  · cases h
theorem impl_Engine_chain (H : HH) {r1 q1 r2 q2 rows2 c0 c1 n1} {l : List DRow} {k : Int} (hb : l.length ≤ 1048576) (hs : sortedR l) (hk : kOk k) (hks : keysOk l) (ha : arrAt H r1 q1 = some (2, l.map DRow.enc)) (hb2 : arrAt H r2 q2 = some (5, rows2)) :
    PFun Tryz.prog 86 [.a [.v (.int .i64 c0), .v (.int .i64 c1), .sl r2 q2 5 0 n1, .sl r1 q1 2 0 l.length], I k] H (chainT r1 q1 l k) := by
  refine PFun.of [1, 2, 4, 5, 6, 13] Tryz.func86 rfl (by simp [Tryz.f86]) ?_
  intro d hd0 hfr hcl hout
  have hcd : ∀ n q, CleanH (hit [((d, n), q)]) H := fun n q => hcl.at
  have ha_n : ∀ n, ¬ (d, n) = r1 := fun n => nm_ne (ne_of_arr hfr ha)
  have ha_d : ¬ r1.1 = d := ne_of_arr hfr ha
  have ha_m : ∀ n, ¬ r1 = (d, n) := fun n => nm_ne' (ne_of_arr hfr ha)
  have hb2_n : ∀ n, ¬ (d, n) = r2 := fun n => nm_ne (ne_of_arr hfr hb2)
  have hb2_d : ¬ r2.1 = d := ne_of_arr hfr hb2
  have hb2_m : ∀ n, ¬ r2 = (d, n) := fun n => nm_ne' (ne_of_arr hfr hb2)
  simp (maxSteps := 4000000) [hd0, hfr, hout, hcl, hcd, delA_none, ha, ha_n, ha_d, ha_m, hb2, hb2_n, hb2_d, hb2_m, Tryz.f86]
  refine (impl_Engine_row _ (rows2 := rows2) hb hs hk hks (by simp (maxSteps := 4000000) [hd0, hfr, hout, hcl, hcd, delA_none, ha, ha_n, ha_d, ha_m, hb2, hb2_n, hb2_d, hb2_m]) (by simp (maxSteps := 4000000) [hd0, hfr, hout, hcl, hcd, delA_none, ha, ha_n, ha_d, ha_m, hb2, hb2_n, hb2_d, hb2_m])).useCK ?_
  by_cases hf : foundR l k = true
  · have hlt := foundR_lt hf
    have hc : chainR l k = l[rowP l k].chain := by simp [chainR, hf, List.getD_eq_getElem?_getD, hlt]
    have hT : chainT r1 q1 l k = .c (.sl r1 (q1 ++ [(rowP l k, 1)]) 4 0 l[rowP l k].chain.length) := by simp [chainT, hf, hc]
    rw [hT]
    generalize rowP l k = p at *
    simp (maxSteps := 4000000) [hd0, hfr, hout, hcl, hcd, delA_none, ha, ha_n, ha_d, ha_m, hb2, hb2_n, hb2_d, hb2_m, hf, hlt, DRow.enc]
  · simp only [Bool.not_eq_true] at hf
    have hT : chainT r1 q1 l k = .c (.own 4 []) := by simp [chainT, hf]
    rw [hT]
    simp (maxSteps := 4000000) [hd0, hfr, hout, hcl, hcd, delA_none, ha, ha_n, ha_d, ha_m, hb2, hb2_n, hb2_d, hb2_m, hf]
end Go.Proofs.YtnlbjfdmjlnlgaaGreat


namespace Go.Px
open Go.RowKit
set_option linter.unusedVariables false
set_option linter.unusedSimpArgs false
set_option linter.constructorNameAsVariable false
/-- what is owned in hand gets a name of its own -/
def refsD (d : Nat) : Nat → List Cell → List Cell
  | _, [] => []
  | k, .own z els :: t => .sl (d, k) [] z 0 els.length :: refsD d (k + 1) t
  | k, c :: t => c :: refsD d (k + 1) t
def rootsD (d : Nat) : Nat → List Cell → HH
  | _, [] => []
  | k, .own z els :: t => ((d, k), .own z els) :: rootsD d (k + 1) t
  | k, c :: t => rootsD d (k + 1) t
def cellsA : List T → List Cell
  | [] => []
  | .a l :: t => l ++ cellsA t
  | .c c :: t => c :: cellsA t
  | _ :: t => cellsA t
def refsA (d : Nat) : Nat → List T → List T
  | _, [] => []
  | k, .a l :: t => .a (refsD d k l) :: refsA d (k + l.length) t
  | k, .c (.own z els) :: t => .c (.sl (d, k) [] z 0 els.length) :: refsA d (k + 1) t
  | k, .c c :: t => .c c :: refsA d (k + 1) t
  | k, x :: t => x :: refsA d k t
def rootable : List T → Bool
  | [] => true
  | .a _ :: t => rootable t
  | .c _ :: t => rootable t
  | _ :: _ => false
theorem Holds.append {g R w β} : ∀ {H1 F1 H2 F2}, Holds g R w β H1 F1 → Holds g R w β H2 F2 → Holds g R w β (H1 ++ H2) (F1 ++ F2)
  | _, _, _, _, .nil, h => h
  | _, _, _, _, .sh h0 hr hb ht, h => .sh h0 hr hb (ht.append h)
  | _, _, _, _, .ow h0 hr ht, h => by rw [List.append_assoc]; exact .ow h0 hr (ht.append h)
theorem Holds.split {g R w β} : ∀ {H1 H2 F}, Holds g R w β (H1 ++ H2) F → ∃ F1 F2, F = F1 ++ F2 ∧ Holds g R w β H1 F1 ∧ Holds g R w β H2 F2
  | [], H2, F, h => ⟨[], F, rfl, .nil, h⟩
  | e :: H1, H2, F, h => by
    cases h with
    | sh h0 hr hb ht =>
      obtain ⟨F1, F2, rfl, h1, h2⟩ := ht.split
      exact ⟨F1, F2, rfl, .sh h0 hr hb h1, h2⟩
    | ow h0 hr ht =>
      obtain ⟨F1, F2, rfl, h1, h2⟩ := ht.split
      exact ⟨_, F2, by rw [← List.append_assoc], .ow h0 hr h1, h2⟩
theorem rootsD_holds {g : Nat} {R : Cell → Value → Prop} {w : World} {β : Nm → Value} {d : Nat} (hd : d ≠ 0) : ∀ {l : List Cell} {vs : List Value} {F : List Nat} {k : Nat}, VRep R w l vs F → (∀ j v, vs[j]? = some v → β (d, k + j) = v) → Holds g R w β (rootsD d k l) F
  | _, _, _, k, .nil, hβ => .nil
  | c :: t, _, _, k, @VRep.cons _ _ _ x F1 _ xs G hc ht, hβ => by
    have hx : β (d, k) = x := by simpa using hβ 0 x (by simp)
    have ih := rootsD_holds (g := g) hd (k := k + 1) ht (fun j v hj => by rw [← hβ (j + 1) v (by simpa using hj)]; congr 2; omega)
    by_cases ho : isOwn c = true
    · cases c with
      | own z els =>
        simp only [rootsD]
        exact .ow hd (by rw [hx]; exact hc) ih
      | _ => simp [isOwn] at ho
    · have hF := hc.bare (by simpa using ho)
      subst hF
      cases c with
      | own z els => simp [isOwn] at ho
      | _ => simpa [rootsD] using ih
theorem refsD_rep {R R' : Cell → Value → Prop} {w : World} {d : Nat} : ∀ {l : List Cell} {vs : List Value} {F : List Nat} {k : Nat}, VRep R w l vs F → (∀ c x, isRef c = true → R c x → R' c x) → (∀ (j : Nat) z els v, l[j]? = some (.own z els) → vs[j]? = some v → R' (.sl (d, k + j) [] z 0 els.length) v) →
    VRep R' w (refsD d k l) vs []
  | _, _, _, k, .nil, hR, hO => .nil
  | c :: t, _, _, k, @VRep.cons _ _ _ x F1 _ xs G hc ht, hR, hO => by
    have ih := refsD_rep (d := d) (k := k + 1) ht hR (fun j z els v hj hv => by have := hO (j + 1) z els v (by simpa using hj) (by simpa using hv); rwa [show k + 1 + j = k + (j + 1) by omega])
    cases c with
    | own z els =>
      simp only [refsD]
      exact VRep.cons (F := []) (.ref rfl hc.flat (by simpa using hO 0 z els x rfl rfl)) ih
    | v y => cases hc with
      | v _ h => simpa [refsD] using VRep.cons (.v _ h) ih
      | ref hi => simp [isRef] at hi
    | x => cases hc with
      | x _ h => simpa [refsD] using VRep.cons (.x _ h) ih
      | ref hi => simp [isRef] at hi
    | sl r q z i n => cases hc with
      | ref hi hf hv => simpa [refsD] using VRep.cons (.ref rfl hf (hR _ _ rfl hv)) ih
    | pt r q z i f => cases hc with
      | ref hi hf hv => simpa [refsD] using VRep.cons (.ref rfl hf (hR _ _ rfl hv)) ih
    | fn f cs => cases hc with
      | ref hi hf hv => simpa [refsD] using VRep.cons (.ref rfl hf (hR _ _ rfl hv)) ih
theorem refsA_rep {R : Cell → Value → Prop} {w : World} {d : Nat} : ∀ {args : List T} {vs : List Value} {FA : List Nat} {k : Nat}, rootable args = true → TReps R w args vs FA → ∃ V, VRep R w (cellsA args) V FA ∧
    ∀ R' : Cell → Value → Prop, (∀ c x, isRef c = true → R c x → R' c x) → (∀ (j : Nat) z els v, (cellsA args)[j]? = some (.own z els) → V[j]? = some v → R' (.sl (d, k + j) [] z 0 els.length) v) → TReps R' w (refsA d k args) vs []
  | [], _, _, k, _, .nil => ⟨[], .nil, fun _ _ _ => .nil⟩
  | .a l :: t, _, _, k, hr, @TReps.cons _ _ _ v F _ vs' G hx ht => by
    obtain ⟨vs, rfl, hl⟩ := trep_a hx
    obtain ⟨V, h1, h2⟩ := refsA_rep (d := d) (k := k + l.length) (by simpa [rootable] using hr) ht
    have hll := hl.length
    refine ⟨vs ++ V, hl.append h1, fun R' hR hO => ?_⟩
    simp only [refsA]
    have e1 := refsD_rep (d := d) (k := k) hl hR (fun j z els v hj hv => by
      have hlt := (List.getElem?_eq_some_iff.1 hj).1
      exact hO j z els v (by simp only [cellsA]; rw [List.getElem?_append_left hlt]; exact hj) (by rw [List.getElem?_append_left (by omega)]; exact hv))
    have e2 := h2 R' hR (fun j z els v hj hv => by
      have := hO (l.length + j) z els v (by simp only [cellsA]; rw [List.getElem?_append_right (by omega)]; simpa using hj) (by rw [List.getElem?_append_right (by omega), hll]; simpa using hv)
      rwa [show k + l.length + j = k + (l.length + j) by omega])
    exact TReps.cons (F := []) (.a e1) e2
  | .c c :: t, _, _, k, hr, @TReps.cons _ _ _ v F _ vs' G hx ht => by
    cases hx with
    | c hx =>
      obtain ⟨V, h1, h2⟩ := refsA_rep (d := d) (k := k + 1) (by simpa [rootable] using hr) ht
      have h0 : VRep R w [c] [v] F := by simpa using VRep.cons hx .nil
      refine ⟨v :: V, .cons hx h1, fun R' hR hO => ?_⟩
      have e1 := refsD_rep (d := d) (k := k) h0 hR (fun j z els u hj hv => by
        cases j with
        | zero => simp at hj hv; subst hj hv; exact hO 0 z els _ rfl rfl
        | succ j => simp at hj)
      have e2 := h2 R' hR (fun j z els u hj hv => by
        have := hO (j + 1) z els u (by simpa [cellsA] using hj) (by simpa using hv)
        rwa [show k + 1 + j = k + (j + 1) by omega])
      have key : ∀ c', refsD d k [c] = [c'] → TReps R' w (.c c' :: refsA d (k + 1) t) (v :: vs') [] := fun c' hc' => by
        rw [hc'] at e1
        obtain ⟨v', F1, k1, k2, k3⟩ := e1.nth (j := 0) rfl
        simp at k1 k3; subst k1; subst k3
        exact TReps.cons (F := []) (.c k2) e2
      cases c <;> exact key _ rfl
  | .t l :: t, _, _, k, hr, h => by simp [rootable] at hr
  | .u :: t, _, _, k, hr, h => by simp [rootable] at hr
theorem look_append {r : Nm} : ∀ {H1 H2 : HH}, look (H1 ++ H2) r = match look H1 r with | some c => some c | none => look H2 r
  | [], H2 => rfl
  | (s, c) :: t, H2 => by
    by_cases e : s = r
    · simp [look, e]
    · simp only [List.cons_append, look, e, if_false]; exact look_append
theorem look_rootsD_ne {d : Nat} {r : Nm} (hr : r.1 ≠ d) : ∀ {l : List Cell} {k : Nat}, look (rootsD d k l) r = none
  | [], k => rfl
  | c :: t, k => by
    have ih := look_rootsD_ne hr (l := t) (k := k + 1)
    cases c with
    | own z els => simp only [rootsD, look]; rw [if_neg (fun e => hr (by rw [← e])), ih]
    | _ => simpa [rootsD] using ih
theorem look_rootsD {d : Nat} : ∀ {l : List Cell} {k j : Nat} {z els}, l[j]? = some (.own z els) → look (rootsD d k l) (d, k + j) = some (.own z els)
  | [], k, j, z, els, h => by simp at h
  | c :: t, k, 0, z, els, h => by simp at h; subst h; simp [rootsD, look]
  | c :: t, k, j + 1, z, els, h => by
    have ih := look_rootsD (d := d) (l := t) (k := k + 1) (j := j) (by simpa using h)
    rw [show k + 1 + j = k + (j + 1) by omega] at ih
    cases c with
    | own z' els' =>
      simp only [rootsD, look]
      rw [if_neg (fun e => by have := (Prod.mk.injEq _ _ _ _ ▸ e : d = d ∧ k = k + (j + 1)).2; omega)]
      exact ih
    | _ => simpa [rootsD] using ih
theorem vp1_out {w : World} {β β' : Nm → Value} {H H' : HH} {d : Nat} (hβ : ∀ r, r.1 ≠ d → β' r = β r) (hl : ∀ r, r.1 ≠ d → look H' r = look H r) : ∀ c x, ¬ atD1 d c → VP1 w β H c x → VP1 w β' H' c x := by
  intro c x hn h
  cases c with
  | sl r q z i n => obtain ⟨c, els, hd, e1, e2, e3, e4⟩ := h; exact ⟨c, els, hd, (hl r hn).trans e1, e2, by rw [hβ r hn]; exact e3, e4⟩
  | pt r q z i f => obtain ⟨c, els, hd, e1, e2, e3, e4⟩ := h; exact ⟨c, els, hd, (hl r hn).trans e1, e2, by rw [hβ r hn]; exact e3, e4⟩
  | v y => exact h
  | own z els => exact h.elim
  | fn f cs => exact h.elim
  | x => exact h.elim
theorem vp_named {R : Cell → Value → Prop} {w : World} {β : Nm → Value} {H : HH} {nm : Nm} {z : Nat} {els : List (List Cell)} {v : Value} {F : List Nat} (h : Rep R w (.own z els) v F) (hl : look H nm = some (.own z els)) (hβ : β nm = v) : VP w β H (.sl nm [] z 0 els.length) v := by
  refine ⟨.own z els, els, v, hl, rfl, by simp [hdr, hβ], by simp, ?_⟩
  cases h with
  | ref hi => simp [isRef] at hi
  | nil z A => exact .inr ⟨rfl, A, rfl, _, _, rfl⟩
  | @own _ b off cap _ arr el fr F hz hb hfr hr hl hs hreps => exact .inl ⟨b, off, _, cap, cap, rfl, by simp, hl, by omega⟩
/-- A contract over references serves for what is owned in hand. -/
theorem PFun.root {P : Program} {f : FuncId} {args : List T} {H : HH} {x : T} (hr : rootable args = true) (hx : ∀ d, x.clean (atD d))
    (h : ∀ d, d ≠ 0 → (∀ n, look H (d, n) = none) → PFun P f (refsA d 0 args) (rootsD d 0 (cellsA args) ++ H) x) : PFun P f args H x := by
  intro g w β F FA vs hgl hh ht hn hlow
  obtain ⟨d, hd0, hfr⟩ := exists_fresh H
  have hfr' : ∀ n, look H (d, n) = none := fun n => by
    cases hl : look H (d, n) with
    | none => rfl
    | some c => exact absurd rfl (hfr _ (look_mem hl))
  obtain ⟨V, hV, hmk⟩ := refsA_rep (d := d) (k := 0) hr ht
  let β' : Nm → Value := fun r => if r.1 = d then V.getD r.2 undef else β r
  have hβd : ∀ (j : Nat) v, V[j]? = some v → β' (d, 0 + j) = v := fun j v hj => by
    show (if (d, 0 + j).1 = d then V.getD (0 + j) undef else _) = v
    rw [if_pos rfl, Nat.zero_add, List.getD_eq_getElem?_getD, hj]; rfl
  have hβ : ∀ r : Nm, r.1 ≠ d → β' r = β r := fun r hr => by show (if r.1 = d then _ else _) = _; rw [if_neg hr]
  have hlk : ∀ r : Nm, r.1 ≠ d → look (rootsD d 0 (cellsA args) ++ H) r = look H r := fun r hr => by rw [look_append, look_rootsD_ne hr]
  have hvp : ∀ c x, isRef c = true → VP w β H c x → VP w β' (rootsD d 0 (cellsA args) ++ H) c x := fun c x hc hv => vp_out hβ hlk c x hc (vp_fresh hfr c x hc hv) hv
  have hO : ∀ (j : Nat) z els v, (cellsA args)[j]? = some (.own z els) → V[j]? = some v → VP w β' (rootsD d 0 (cellsA args) ++ H) (.sl (d, 0 + j) [] z 0 els.length) v := fun j z els v hj hv => by
    obtain ⟨v', F1, k1, k2, k3⟩ := hV.nth hj
    rw [hv] at k1; cases k1
    exact vp_named k2 (by rw [look_append, look_rootsD hj]) (hβd j v hv)
  have hV' : VRep (VP w β' (rootsD d 0 (cellsA args) ++ H)) w (cellsA args) V FA := hV.mono (K := fun _ => False) (fun c _ => clean_false c) (fun c x hc _ hv => hvp c x hc hv) (fun _ _ => rfl)
  have hHo : Holds g (VP w β' (rootsD d 0 (cellsA args) ++ H)) w β' H F := hh.mono (K := fun _ => False) (fun en he => hβ en.1 (hfr en he)) (fun en _ => clean_false en.2) (fun c x hc _ hv => hvp c x hc hv) (fun _ _ => rfl) (fun _ _ => rfl)
  have hHold : Holds g (VP w β' (rootsD d 0 (cellsA args) ++ H)) w β' (rootsD d 0 (cellsA args) ++ H) (FA ++ F) := (rootsD_holds hd0 hV' hβd).append hHo
  have hargs := hmk _ hvp hO
  refine (h d hd0 hfr' g w β' (FA ++ F) [] vs hgl hHold hargs ?_ ?_).mono fun en w' hres => ?_
  · rw [List.append_nil]; exact (List.perm_append_comm.nodup_iff).1 hn
  · intro b hb
    rw [List.append_nil] at hb
    exact hlow b (List.perm_append_comm.subset hb)
  · obtain ⟨y, T1, H', lg, F', FT, rfl, ⟨rfl, rfl, rfl⟩, k1, k2, k3, k4, k5⟩ := hres
    obtain ⟨F1, F2, rfl, m1, m2⟩ := k1.split
    have hlk2 : ∀ r : Nm, r.1 ≠ d → look H r = look (rootsD d 0 (cellsA args) ++ H) r := fun r hr => (hlk r hr).symm
    have hβ2 : ∀ r : Nm, r.1 ≠ d → β r = β' r := fun r hr => (hβ r hr).symm
    have hback := vp_out (w := w') hβ2 hlk2
    have m3 : Holds g (VP w' β H) w' β H F2 := m2.mono (K := atD d) (fun en he => hβ2 en.1 (hfr en he)) (hh.cleans (vp_fresh hfr)) (fun c x hc hk hv => hback c x hc hk hv) (fun _ _ => rfl) (fun _ _ => rfl)
    have m4 : TRep (VP w' β H) w' T1 y FT := k2.mono (hx d) (fun c x hc hk hv => hback c x hc hk hv) (fun _ _ => rfl)
    refine ⟨y, T1, H, [], F2, FT, rfl, ⟨rfl, rfl, rfl⟩, m3, m4, ?_, ?_, fun c x hc hv => ?_⟩
    · exact List.Nodup.sublist (List.Sublist.append (List.sublist_append_right F1 F2) (.refl _)) k3
    · have := k4.sub (B' := F2 ++ FT) (fun b hb => by
        rcases List.mem_append.1 hb with hb | hb
        · simp [hb]
        · simp [hb])
      exact { this with same := fun b hb hnb => this.same b hb (fun hm => hnb (by rw [List.append_nil] at hm; exact List.perm_append_comm.subset hm)), new := fun b hb => (this.new b hb).imp (fun hm => by rw [List.append_nil] at hm; exact List.perm_append_comm.subset hm) id }
    · have hnD := out_notD hv hfr
      have h1 := vp1_out hβ hlk c x hnD hv
      exact vp1_out hβ2 hlk2 c x hnD (k5 c x hc h1)
theorem CleanRows_mk {K : Cell → Prop} {k : Int} {rows : List (List Cell)} (h : CleanRows K rows) : CleanRows K (mkRs k rows) ↔ True := iff_true_intro (mkRs_clean h)
attribute [simp] CleanRows_mk refsA refsD rootsD cellsA rootable
end Go.Px


namespace Go.Proofs.YtnlbjfdmjlnlgaaGreat
open Go Go.Px Go.RowKit Go.Proofs
set_option linter.unnecessarySimpa false
set_option linter.unusedVariables false
set_option linter.unusedSimpArgs false
set_option maxRecDepth 100000
set_option maxHeartbeats 1000000
attribute [-simp] Int.not_le Int.not_lt
def tRange (next clock : Int) (t : DTxn) : Bool := inR t.id_ 1 (next - 1) && inR t.at_ 0 clock && inR t.state 1 3 && inR t.done 0 clock
def tForm (p : Option Int) (t : DTxn) : Bool := !nab p t.id_ && (decide (t.done = 0) || (decide (t.state = 2) && decide (t.at_ < t.done))) && (decide (t.undos.length = 0) || decide (t.state = 1))
def txsF (next clock : Int) : Option Int → List DTxn → Int
  | _, [] => 0
  | p, t :: l => if tRange next clock t = false then 3 else if tForm p t = false then 1 else if undosF t.undos ≠ 0 then undosF t.undos else txsF next clock (some t.id_) l
def rowOpenF (txns : List DTxn) (r : DRow) : Bool := match r.chain with
  | [] => true
  | v :: _ => decide (v.at_ ≠ 0) || txns.any fun t => decide (t.id_ = v.txn) && undoesF t r.key
def rowsF (clock : Int) (txns : List DTxn) : Option Int → List DRow → Int
  | _, [] => 0
  | p, r :: l => if inR r.key 0 31 = false then 3 else if (nab p r.key || decide (r.chain.length = 0)) = true then 1 else if chainF r.chain ≠ 0 then chainF r.chain else if ((r.chain.any fun v => decide (clock < v.at_)) || !rowOpenF txns r) = true then 1 else rowsF clock txns (some r.key) l
def ownI (rows : List DRow) (id : Int) (us : List DUndo) (i : Nat) : Bool := match us[i]? with
  | some u => openF (chainR rows u.key) id && ((us.take i).any (fun x => decide (x.key = u.key)) == u.had)
  | none => true
def ownsF (rows : List DRow) (t : DTxn) : Bool := (List.range t.undos.length).all fun i => ownI rows t.id_ t.undos i
def engF (x : DEngine) : Int :=
  if (!inR x.next 1 999 || !inR x.clock 0 1000000) = true then 3 else if 20 < x.txns.length ∨ 32 < x.rows.length then 2
  else if txsF x.next x.clock none x.txns ≠ 0 then txsF x.next x.clock none x.txns
  else if rowsF x.clock x.txns none x.rows ≠ 0 then rowsF x.clock x.txns none x.rows
  else if (x.txns.all fun t => ownsF x.rows t) = false then 1 else 0
theorem txsF_get {next clock : Int} : ∀ {l : List DTxn} {p}, txsF next clock p l = 0 → ∀ t ∈ l, tRange next clock t = true ∧ undosF t.undos = 0 ∧ (decide (t.undos.length = 0) || decide (t.state = 1)) = true
  | [], _, _, t, ht => by simp at ht
  | t0 :: l, p, h, t, ht => by
    simp only [txsF] at h
    split at h
    · omega
    · rename_i h1
      split at h
      · omega
      · rename_i h2
        split at h
        · rename_i h3; exact absurd h h3
        · rename_i h3
          rcases List.mem_cons.1 ht with rfl | ht
          · refine ⟨by simpa using h1, by simpa using h3, ?_⟩
            simp only [Bool.not_eq_false] at h2
            unfold tForm at h2
            exact (Bool.and_eq_true_iff.1 h2).2
          · exact txsF_get h t ht
theorem unF_key : ∀ {l : List DUndo}, unF l = 0 → ∀ u ∈ l, kOk u.key
  | [], _, u, hu => by simp at hu
  | u0 :: l, h, u, hu => by
    simp only [unF] at h
    split at h
    · omega
    · rename_i h1
      split at h
      · omega
      · rcases List.mem_cons.1 hu with rfl | hu
        · simp only [Bool.not_eq_false] at h1
          unfold uRange inR at h1
          simp at h1
          unfold kOk; omega
        · exact unF_key h u hu
theorem undosF_key {l : List DUndo} (h : undosF l = 0) : ∀ u ∈ l, kOk u.key := by
  unfold undosF at h
  split at h
  · omega
  · exact unF_key h
theorem rowsF_sorted {clock : Int} {txns : List DTxn} : ∀ {l : List DRow} {p}, rowsF clock txns p l = 0 → keysOk l ∧ sortedR l ∧ ∀ b, p = some b → ∀ r ∈ l, b < r.key
  | [], _, _ => ⟨fun r hr => by simp at hr, fun i j _ hj => by simp at hj, fun b _ r hr => by simp at hr⟩
  | r :: l, p, h => by
    simp only [rowsF] at h
    split at h
    · omega
    · rename_i h1
      split at h
      · omega
      · rename_i h2
        split at h
        · rename_i h3; exact absurd h h3
        · split at h
          · omega
          · obtain ⟨k1, k2, k3⟩ := rowsF_sorted h
            have hk : kOk r.key := by
              simp only [Bool.not_eq_false] at h1
              unfold inR at h1; simp at h1; unfold kOk; omega
            have hp : ∀ b, p = some b → b < r.key := by
              intro b hb
              subst hb
              simp [nab] at h2
              have := h2.1
              omega
            refine ⟨fun x hx => ?_, fun i j hij hj => ?_, fun b hb x hx => ?_⟩
            · rcases List.mem_cons.1 hx with rfl | hx
              · exact hk
              · exact k1 x hx
            · cases j with
              | zero => omega
              | succ j =>
                cases i with
                | zero => simp at hj; simpa using k3 r.key rfl _ (List.getElem_mem hj)
                | succ i => simp at hj; simpa using k2 i j (by omega) hj
            · rcases List.mem_cons.1 hx with rfl | hx
              · exact hp b hb
              · have := hp b hb; have := k3 r.key rfl x hx; omega
theorem impl_isOpenOf_own (H : HH) {id} : PFun Tryz.prog 104 [.c (.own 4 []), I id] H (B false) := by
  refine PFun.root rfl (fun d => by simp [T.clean, Clean.v]) (fun d hd hf => ?_)
  have := impl_isOpenOf (((d, 0), .own 4 []) :: H) (r := (d, 0)) (q := []) (id := id) (l := []) (by simp)
  simpa [openF] using this
end Go.Proofs.YtnlbjfdmjlnlgaaGreat

