/- A part of a proof. No conditions. -/
import Derived.Test.YtcjeehebikeghaaGreatDoorBX
set_option linter.unusedVariables false
set_option linter.unusedSimpArgs false
set_option maxRecDepth 100000
set_option maxHeartbeats 4000000
namespace Go.Vs.YtcjeehebikeghaaGreatDoor
open Go.Proofs
def vE:VCode:=Q_ 2 [.K (cb false)] (.seq (C_ 4 5 [.m 0,.v,.i .gtr 30] (Q_ 2 [.K (cb false)] .ret) .skip) (.seq (Q_ 3 [.n 0] (.block 0 (.loop (.seq (C_ 7 9 [.m 3,.m 0,.v,.b .lss] .skip (.exit 0)) (.seq (.block 1 (C_ 13 36 [.m 0,.m 3,.x 3,.f 0,.l,.h,.i .gtr 40,.w,.m 0,.m 3,.x 3,.f 2,.l,.h,.i .gtr 250,.O,.w,.m 0,.m 3,.x 3,.f 1,.l,.c1 34,.u,.O] (Q_ 2 [.K (cb false)] .ret) .skip)) (X_ 11 12 [.m 3,.P 1,.a 3])))))) (Q_ 2 [.K (cb true)] .ret)))
theorem D5:FnOk T_ 8 vE [.tmp 2] 38:=fK_ Tryz.func8
def AE:VCode:=Q_ 2 [.K (.const .nils)] (Q_ 3 [.K (.const .nils)] (.seq (Q_ 4 [.n 0] (.block 0 (.loop (.seq (C_ 5 7 [.m 4,.m 0,.v,.b .lss] .skip (.exit 0)) (.seq (.block 1 (.region (D_ [.m 3,.m 0,.m 4,.x 3,.f 0,.l,.m 0,.m 4,.x 3,.f 1,.l,.c1 44,.m 0,.m 4,.x 3,.f 2,.l,.g (.build z_3 [(0,1,tm 16),(1,1,tm 22),(2,1,tm 27)]),.g (.buildSlice 3 1 z_3 [(0,3,tm 28)]),.g (.append 77 3 56 (tm 11) (tm 29)),.a 3] 11) (.drawn [(0,11),(1,11),(2,11),(3,11),(4,11),(5,11),(11,12),(11,13),(11,14),(11,15),(11,16),(0,18)] (Co [(11,[(0,10),(12,16)]),(18,[(0,17)]),(19,[(0,18)])])) [11,30])) (X_ 9 10 [.m 4,.P 1,.a 4])))))) (R_ 31 31 [.m 3,.a 2] .ret)))
theorem Hx:FnOk T_ 11 AE [.tmp 2] 32:=fK_ Tryz.func11
def y9:VCode:=Q_ 4 [.n 0] (Q_ 5 [.n 0] (.seq (Q_ 8 [.m 0,.v,.n 0] (.block 0 (.loop (Q_ 11 [.g (.bin .lss (tm 10) (tm 9))] (.seq (c_ 11 .skip (.exit 0)) (.seq (.block 1 (R_ 12 13 [.g (.indexAddr 3 (tm 8) (tm 10)),.L 3,.Y 7 z_3,.s 3 7] (C_ 14 15 [.W 3 7,.m 1,.c2 78] (X_ 17 18 [.m 5,.P 1,.a 5]) .skip))) (X_ 19 19 [.g (.bin .add (tm 10) (ci 1)),.a 10]))))))) (R_ 20 20 [.m 5,.a 4] .ret)))
theorem EN:FnOk T_ 29 y9 [.tmp 4] 21:=fK_ Tryz.func29
def AG:VCode:=Q_ 4 [.K (.const .nils)] (Q_ 5 [.K (.const .nils)] (.seq (Q_ 8 [.m 0,.v,.n 0] (.block 0 (.loop (Q_ 11 [.g (.bin .lss (tm 10) (tm 9))] (.seq (c_ 11 .skip (.exit 0)) (.seq (.block 1 (R_ 12 13 [.g (.indexAddr 3 (tm 8) (tm 10)),.L 3,.Y 7 z_3,.s 3 7] (C_ 14 16 [.W 3 7,.m 1,.c2 78,.u] (X_ 18 22 [.m 5,.W 3 7,.c1 81,.g (.buildSlice 3 1 z_3 [(0,3,tm 20)]),.g (.append 77 3 56 (tm 18) (tm 21)),.a 5]) .skip))) (X_ 23 23 [.g (.bin .add (tm 10) (ci 1)),.a 10]))))))) (R_ 24 24 [.m 5,.a 4] .ret)))
theorem Hy:FnOk T_ 32 AG [.tmp 4] 25:=fK_ Tryz.func32
def yb:VCode:=Q_ 1 [.X 0,.n 0] (.seq (C_ 4 6 [.F 0 1,.l,.c1 91,.u] (Q_ 2 [.n 4] .ret) .skip) (.seq (R_ 8 10 [.F 1 1,.l,.c1 92,.a 3] (C_ 11 11 [.m 3,.N 0] (R_ 13 13 [.m 3,.a 2] .ret) .skip)) (.seq (C_ 14 16 [.F 2 1,.l,.h,.i .gtr 200] (Q_ 2 [.n 5] .ret) .skip) (.seq (C_ 18 20 [.F 2 1,.l,.c1 93,.i .geq 0] (Q_ 2 [.n 10] .ret) .skip) (Q_ 2 [.n 0] .ret)))))
theorem EO:FnOk T_ 40 yb [.tmp 2] 22:=fK_ Tryz.func40
def D6:VCode:=Q_ 3 [.X 1,.K (.const .nils)] (Q_ 5 [.K (.const .nils)] (Q_ 6 [.K (cb false)] (.cut (.seq (Q_ 9 [.m 0,.v,.n 0] (.block 0 (.loop (Q_ 12 [.g (.bin .lss (tm 11) (tm 10))] (.seq (c_ 12 .skip (.exit 0)) (.cut (.seq (.block 1 (R_ 13 14 [.g (.indexAddr 3 (tm 9) (tm 11)),.L 3,.Y 8 z_3,.s 3 8] (.block 2 (R_ 16 20 [.W 3 8,.F 0 3,.l,.c2 78,.u,.a 15] (c_ 15 (X_ 21 25 [.m 5,.W 3 8,.c1 81,.g (.buildSlice 3 1 z_3 [(0,3,tm 23)]),.g (.append 77 3 56 (tm 21) (tm 24)),.a 5]) (R_ 27 28 [.m 6,.u,.a 26] (c_ 26 (R_ 29 33 [.m 5,.W 3 3,.c1 81,.g (.buildSlice 3 1 z_3 [(0,3,tm 31)]),.g (.append 77 3 56 (tm 29) (tm 32)),.a 5] (Y_ 6 [.K (cb true)])) .skip))))))) (X_ 34 34 [.g (.bin .add (tm 11) (ci 1)),.a 11])))))))) (.cut (.seq (C_ 35 35 [.m 6,.u] (X_ 37 41 [.m 5,.W 3 3,.c1 81,.g (.buildSlice 3 1 z_3 [(0,3,tm 39)]),.g (.append 77 3 56 (tm 37) (tm 40)),.a 5]) .skip) (R_ 42 42 [.m 5,.a 4] .ret)))))))
theorem JH:FnOk T_ 67 D6 [.tmp 4] 43:=fK_ Tryz.func67
def kK:VCode:=Q_ 2 [.X 0,.J 4 (cb false)] (R_ 5 8 [.F 0 2,.l,.m 1,.b .eql,.a 4] .ret)
theorem qu:FnOk T_ 78 kK [.tmp 4] 9:=fK_ Tryz.func78
def vG:VCode:=Q_ 1 [.X 0,.Z z_3] (R_ 6 10 [.F 0 1,.l,.F 2 1,.l,.g (.build z_3 [(0,1,tm 7),(2,1,tm 9)]),.Y 3 z_3,.s 3 3] (.cut (.seq (G_ 11 [.F 1 1,.l,.v,.n 0] [11,11] (.block 0 (.loop (Q_ 15 [.g (.bin .lss (tm 14) (tm 13))] (.seq (c_ 15 .skip (.exit 0)) (.seq (.block 1 (R_ 16 17 [.g (.indexAddr 2 (tm 12) (tm 14)),.L 2,.Y 5 z_5,.s 2 5] (.region (D_ [.F 1 3,.l,.F 0 5,.l,.F 1 5,.l,.c1 130,.g (.build z_5 [(0,1,tm 21),(1,1,tm 24)]),.g (.buildSlice 2 1 z_5 [(0,2,tm 25)]),.g (.append 154 2 40 (tm 19) (tm 26)),.F 1 3,.T 1 28 27] 18) (.drawn [(0,6),(1,6),(2,6),(3,6),(0,8),(1,8)] (Co [(6,[(0,5)]),(8,[(0,7)]),(9,[(0,8)])])) [18,28]))) (X_ 29 29 [.g (.bin .add (tm 14) (ci 1)),.a 14]))))))) (R_ 30 30 [.W 3 3,.s 3 2] .ret))))
theorem D8:FnOk T_ 81 vG [.cell 2 (some 3)] 31:=fK_ Tryz.func81
def D9:VCode:=Q_ 4 [.Z z_3,.K (cb false)] (.seq (Q_ 8 [.m 0,.v,.n 0] (.block 0 (.loop (Q_ 11 [.g (.bin .lss (tm 10) (tm 9))] (.seq (c_ 11 .skip (.exit 0)) (.seq (.block 1 (R_ 12 13 [.g (.indexAddr 3 (tm 8) (tm 10)),.L 3,.Y 7 z_3,.s 3 7] (C_ 14 15 [.W 3 7,.m 1,.c2 78] (R_ 17 18 [.W 3 7,.c1 81,.s 3 4,.J 5 (cb true)] .ret) .skip))) (X_ 19 19 [.g (.bin .add (tm 10) (ci 1)),.a 10]))))))) (R_ 20 20 [.D z_3,.s 3 4,.J 5 (cb false)] .ret))
theorem JI:FnOk T_ 89 D9 [.cell 4 (some 3),.tmp 5] 21:=fK_ Tryz.func89
end Go.Vs.YtcjeehebikeghaaGreatDoor
