/- A part of a proof. No conditions. -/
import Derived.Test.YtnhbiolfmeeniaaGreatDoorRAz
set_option linter.all false
set_option maxRecDepth 100000
set_option maxHeartbeats 8000000
namespace Go.Vs.Y
open Go.Proofs
def Wh:List Int:=[0,31,59,90,120,151,181,212,243,273,304,334,365]
def G2:List (Nat×List IV):=(1,Wh.map (.int .i64 ·))::G
theorem upR{k:Nat}{a:List IV}{r:Res}(h:CV G T_ k a r):CV G2 T_ k a r:=
 ⟨h.1,fun w S b c d e=>h.2 w S b c d (fun p f=>e p (List.mem_cons_of_mem _ f))⟩
theorem up{k:Nat}{args:List IV}{v:IV}(h:Fn G T_ k args v):Fn G2 T_ k args v:=upR h
theorem upM{k:Nat}{c:MC}(h:lB G T_ k c):lB G2 T_ k c:=
 ⟨h.1,fun w S a b e f g i j l m=>h.2 w S a b e f (fun p n=>g p (List.mem_cons_of_mem _ n)) i j l m⟩
theorem acE{m:Nat}(a:1<=m)(b:m<=13):∃r,(Wh.map (IV.int .i64 ·)).drop (m-1)=.int .i64 (Wh.getD (m-1) 0)::r:=by
 have:m=1\/m=2\/m=3\/m=4\/m=5\/m=6\/m=7\/m=8\/m=9\/m=10\/m=11\/m=12\/m=13:=by omega
 rcases this with rfl|rfl|rfl|rfl|rfl|rfl|rfl|rfl|rfl|rfl|rfl|rfl|rfl<;>exact⟨_,rfl⟩
def HT:VCode:=Q_ 4 [.Z z_4,.n 0] (.seq (R_ 7 9 [.m 0,.m 1,.c2 59,.a 6] (C_ 10 10 [.m 6,.N 0] (R_ 12 13 [.D z_4,.m 6,.T 2 4 12,.a 5] .ret) .skip)) (.seq (C_ 14 14 [.m 0,.U .eql 1] (X_ 16 19 [.m 1,.m 1,.i .rem 86400,.b .sub,.a 1]) .skip) (R_ 20 22 [.m 0,.m 1,.g (.build z_4 [(0,1,tm 20),(1,1,tm 21)]),.s 2 4,.j 5 0] .ret)))
theorem R0:FnOk T_ 28 HT [.cell 4 (some 2),.tmp 5] 23:=fK_ Tryz.func28
def zD:VCode:=Q_ 1 [.X 0,.K (cs []),.n 0] (.seq (R_ 12 13 [.W 2 1,.c1 66,.a 4] (C_ 14 14 [.m 4,.N 0] (R_ 16 16 [.m 4,.J 2 (cs []),.a 3] .ret) .skip)) (V_ 18 21 [.W 2 1,.c1 68,.a 17,.e 17 0,.e 17 1,.M 5 20,.a 6] (V_ 23 28 [.m 5,.c1 69,.a 22,.e 22 0,.e 22 1,.e 22 2,.e 22 3,.M 7 25,.M 8 26,.M 9 27,.a 10] (.seq (C_ 29 29 [.m 10,.N 0] (R_ 31 31 [.m 10,.J 2 (cs []),.a 3] .ret) .skip) (R_ 32 37 [.m 7,.g (.callM 70 [.const .nils,tm 32,ci 4]),.m 8,.g (.callM 70 [tm 33,tm 34,ci 2]),.m 9,.g (.callM 70 [tm 35,tm 36,ci 2]),.a 11] (.seq (C_ 38 39 [.F 0 1,.l,.U .neq 1] (R_ 41 43 [.m 11,.g (.buildSlice 1 1 (z_ [.u]) [(0,1,cu 84)]),.p 5 1 1,.a 11] (X_ 44 54 [.m 11,.m 6,.i .quo 3600,.g (.callM 70 [tm 44,tm 46,ci 2]),.m 6,.i .quo 60,.i .rem 60,.g (.callM 70 [tm 47,tm 50,ci 2]),.m 6,.i .rem 60,.g (.callM 70 [tm 51,tm 53,ci 2]),.a 11])) .skip) (.seq (C_ 55 56 [.F 0 1,.l,.U .eql 3] (X_ 58 60 [.m 11,.g (.buildSlice 1 1 (z_ [.u]) [(0,1,cu 90)]),.p 5 1 1,.a 11]) .skip) (R_ 61 62 [.m 11,.g (.convB (tm 61)),.a 2,.j 3 0] .ret))))))))
theorem Iz:FnOk T_ 35 zD [.tmp 2,.tmp 3] 63:=fK_ Tryz.func35
def zF:VCode:=Q_ 4 [.n 0] (.seq (C_ 5 9 [.m 0,.U .eql 0,.w,.m 0,.U .gtr 3,.O] (Q_ 4 [.n 11] .ret) .skip) (.seq (C_ 11 15 [.m 1,.i .lss 0,.w,.m 1,.i .gtr 315537897599,.O] (Q_ 4 [.n 8] .ret) .skip) (Q_ 4 [.n 0] .ret)))
theorem IA:FnOk T_ 59 zF [.tmp 4] 17:=fK_ Tryz.func59
def zH:VCode:=Q_ 1 [.X 0,.n 0] (V_ 6 12 [.F 0 1,.l,.F 1 1,.l,.c2 28,.a 5,.e 5 0,.e 5 1,.Y 3 z_4,.T 2 3 11,.a 4] (.seq (C_ 13 13 [.m 4,.N 0] (R_ 15 15 [.m 4,.a 2] .ret) .skip) (.seq (C_ 16 17 [.W 2 3,.W 2 1,.g (.eqA true [.i,.i] (tm 16) (tm 17))] (Q_ 2 [.n 2] .ret) .skip) (Q_ 2 [.n 0] .ret))))
theorem IB:FnOk T_ 66 zH [.tmp 2] 19:=fK_ Tryz.func66
def zJ:VCode:=Q_ 1 [.X 0,.n 0,.n 0] (.seq (C_ 4 5 [.W 2 1,.c1 66,.N 0] (Q_ 2 [.n 0,.n 0] .ret) .skip) (.seq (.region (D_ [.F 1 1,.l,.i .quo 86400,.F 1 1,.l,.i .rem 86400,.M 2 9,.a 3] 7) .calm [7,12]) .ret))
theorem IC:FnOk T_ 68 zJ [.tmp 2,.tmp 3] 13:=fK_ Tryz.func68
def EN:VCode:=Q_ 2 [.n 0,.n 0,.n 0,.n 0] (.seq (C_ 9 10 [.m 0,.c1 111,.u] (Q_ 2 [.n 0,.n 0,.n 0,.n 8] .ret) .skip) (V_ 13 16 [.m 0,.c1 112,.a 12,.e 12 0,.e 12 1,.M 6 15,.a 7] (R_ 17 19 [.m 7,.i .quo 32,.P 1,.a 8] (.seq (C_ 20 24 [.m 7,.m 6,.m 8,.P 1,.c2 113,.b .geq] (X_ 26 27 [.m 8,.P 1,.a 8]) .skip) (R_ 28 35 [.m 6,.m 8,.m 7,.m 6,.m 8,.c2 113,.b .sub,.P 1,.M 2 28,.M 3 29,.a 4,.j 5 0] .ret)))))
theorem Nx:FnOk T_ 69 EN [.tmp 2,.tmp 3,.tmp 4,.tmp 5] 36:=fK_ Tryz.func69
def xB:VCode:=.cut (Q_ 6 [.K (.const .nils)] (R_ 9 10 [.m 0,.v,.a 7] (R_ 11 14 [.m 0,.m 2,.g (.subS (cs [48,48,48,48]) none (some (tm 12))),.g (.appendS 5 1 (tm 11) (tm 13)),.a 0] (.seq (R_ 15 18 [.m 7,.m 2,.b .add,.i .sub 1,.a 8] (.block 0 (.loop (.seq (C_ 19 20 [.m 8,.m 7,.b .geq] .skip (.exit 0)) (.seq (.block 1 (R_ 24 30 [.m 0,.m 8,.m 1,.i .rem 10,.g (.convI .u8 (tm 27)),.g (.bin .add (cu 48) (tm 28)),.g (.indexAddr 1 (tm 24) (tm 25)),.T 1 30 29] (X_ 31 32 [.m 1,.i .quo 10,.a 1]))) (X_ 22 23 [.m 8,.i .sub 1,.a 8])))))) (R_ 33 33 [.m 0,.a 6] .ret)))))
theorem BN:FnOk T_ 70 xB [.tmp 6] 34:=fK_ Tryz.func70
def BO:VCode:=Q_ 2 [.K (cb false)] (R_ 3 8 [.m 0,.i .geq 0,.z,.m 0,.i .leq 3652058,.A,.a 2] .ret)
theorem Li:FnOk T_ 111 BO [.tmp 2] 9:=fK_ Tryz.func111
def BQ:VCode:=Q_ 2 [.n 0,.n 0] (R_ 8 11 [.m 0,.i .quo 146097,.i .mul 400,.g (.bin .add (ci 1) (tm 10)),.a 4] (R_ 12 13 [.m 0,.i .rem 146097,.a 0] (R_ 14 16 [.m 0,.i .quo 36524,.g (.minI (tm 15) (ci 3)),.a 5] (R_ 17 20 [.m 0,.m 5,.i .mul 36524,.b .sub,.a 0] (R_ 21 22 [.m 0,.i .quo 1461,.a 6] (R_ 23 24 [.m 0,.i .rem 1461,.a 0] (R_ 25 27 [.m 0,.i .quo 365,.g (.minI (tm 26) (ci 3)),.a 7] (R_ 28 40 [.m 4,.m 5,.g (.bin .mul (ci 100) (tm 29)),.g (.bin .add (tm 28) (tm 30)),.m 6,.g (.bin .mul (ci 4) (tm 32)),.g (.bin .add (tm 31) (tm 33)),.m 7,.b .add,.m 0,.m 7,.i .mul 365,.b .sub,.M 2 36,.a 3] .ret))))))))
theorem Lj:FnOk T_ 112 BQ [.tmp 2,.tmp 3] 41:=fK_ Tryz.func112
def BS:VCode:=Q_ 4 [.n 0] (R_ 6 9 [.m 1,.i .sub 1,.g (.indexArr 13 1 (.glob 1) (tm 7)),.l,.a 5] (.seq (C_ 10 14 [.m 1,.i .gtr 2,.z,.m 0,.c1 164,.A] (X_ 16 17 [.m 5,.P 1,.a 5]) .skip) (R_ 18 18 [.m 5,.a 4] .ret)))
theorem Lk:FnOk T_ 113 BS [.tmp 4] 19:=fK_ Tryz.func113
def zL:VCode:=Q_ 2 [.Z z_4,.n 0] (V_ 13 18 [.m 0,.c1 192,.a 12,.e 12 0,.e 12 1,.e 12 2,.e 12 3,.M 4 15,.M 5 16,.M 6 17,.a 7] (.seq (C_ 19 19 [.m 7,.u] (R_ 21 21 [.D z_4,.s 2 2,.j 3 4] .ret) .skip) (V_ 23 27 [.m 5,.g (.buildSlice 1 3 (z_ [.i]) [(0,1,ci 4),(1,1,ci 2),(2,1,ci 2)]),.c2 193,.a 22,.e 22 0,.e 22 1,.M 8 26,.a 7] (.seq (C_ 28 28 [.m 7,.u] (R_ 30 30 [.D z_4,.s 2 2,.j 3 4] .ret) .skip) (V_ 32 36 [.m 6,.g (.buildSlice 1 3 (z_ [.i]) [(0,1,ci 2),(1,1,ci 2),(2,1,ci 2)]),.c2 193,.a 31,.e 31 0,.e 31 1,.M 9 35,.a 7] (.seq (C_ 37 37 [.m 7,.u] (R_ 39 39 [.D z_4,.s 2 2,.j 3 4] .ret) .skip) (.seq (.region (D_ [.m 8,.g (.indexAddr 1 (tm 41) (ci 0)),.l,.m 8,.g (.indexAddr 1 (tm 44) (ci 1)),.l,.m 8,.g (.indexAddr 1 (tm 47) (ci 2)),.l,.g (.call 158 [tm 43,tm 46,tm 49]),.a 40,.e 40 0,.e 40 1,.M 10 51,.a 11] 41) (.drawn [] (wd [(9,[(0,8)])])) [40,52]) (.seq (C_ 53 71 [.m 11,.N 0,.w,.m 9,.g (.indexAddr 1 (tm 56) (ci 0)),.l,.i .gtr 23,.O,.w,.m 9,.g (.indexAddr 1 (tm 62) (ci 1)),.l,.i .gtr 59,.O,.w,.m 9,.g (.indexAddr 1 (tm 68) (ci 2)),.l,.i .gtr 59,.O] (R_ 73 73 [.D z_4,.s 2 2,.j 3 8] .ret) .skip) (.seq (.region (D_ [.m 4,.m 10,.i .mul 86400,.m 9,.g (.indexAddr 1 (tm 77) (ci 0)),.l,.i .mul 60,.m 9,.g (.indexAddr 1 (tm 81) (ci 1)),.l,.g (.bin .add (tm 80) (tm 83)),.i .mul 60,.g (.bin .add (tm 76) (tm 85)),.m 9,.g (.indexAddr 1 (tm 87) (ci 2)),.l,.g (.bin .add (tm 86) (tm 89)),.g (.build z_4 [(0,1,tm 74),(1,1,tm 90)]),.s 2 2,.j 3 0] 74) .calm [74,91]) .ret)))))))))
theorem ID:FnOk T_ 136 zL [.cell 2 (some 2),.tmp 3] 92:=fK_ Tryz.func136
def EP:VCode:=Q_ 2 [.n 0] (.seq (.block 0 (R_ 4 6 [.m 0,.c1 212,.u,.a 3] (c_ 3 (Q_ 2 [.n 0] .ret) (R_ 8 9 [.m 0,.c1 164,.a 7] (c_ 7 (Q_ 2 [.n 366] .ret) .skip))))) (Q_ 2 [.n 365] .ret))
theorem Ny:FnOk T_ 156 EP [.tmp 2] 10:=fK_ Tryz.func156
def HV:VCode:=Q_ 4 [.n 0] (.seq (C_ 5 14 [.m 0,.c1 212,.u,.w,.m 1,.i .lss 1,.O,.w,.m 1,.i .gtr 12,.O] (Q_ 4 [.n 0] .ret) .skip) (R_ 16 23 [.m 0,.m 1,.P 1,.c2 113,.m 0,.m 1,.c2 113,.b .sub,.a 4] .ret))
theorem R1:FnOk T_ 157 HV [.tmp 4] 24:=fK_ Tryz.func157
def HY:VCode:=Q_ 6 [.n 0,.n 0] (.seq (C_ 9 16 [.m 2,.i .lss 1,.w,.m 2,.m 0,.m 1,.c2 157,.b .gtr,.O] (Q_ 6 [.n 0,.n 8] .ret) .skip) (R_ 18 19 [.m 0,.i .sub 1,.a 8] (R_ 20 37 [.m 8,.i .mul 365,.m 8,.i .quo 4,.b .add,.m 8,.i .quo 100,.b .sub,.m 8,.i .quo 400,.b .add,.m 0,.m 1,.c2 113,.b .add,.m 2,.b .add,.i .sub 1,.a 6,.j 7 0] .ret)))
theorem R2:FnOk T_ 158 HY [.tmp 6,.tmp 7] 38:=fK_ Tryz.func158
def ER:VCode:=Q_ 2 [.K (cb false)] (R_ 3 19 [.m 0,.c1 212,.z,.m 0,.i .rem 4,.E 0,.A,.z,.m 0,.i .rem 100,.N 0,.w,.m 0,.i .rem 400,.E 0,.O,.A,.a 2] .ret)
theorem Nz:FnOk T_ 164 ER [.tmp 2] 20:=fK_ Tryz.func164
def BU:VCode:=Q_ 2 [.K (cu 0),.K (cs []),.K (cs []),.K (cb false)] (.seq (.block 0 (R_ 7 9 [.m 0,.h,.E 8,.a 6] (c_ 6 (G_ 2 [.M 10 0,.K (cu 1),.m 10,.K (cs [48,48,48,48,48,48]),.K (cb true)] [10,10] .ret) (R_ 12 19 [.m 0,.h,.E 15,.z,.m 0,.g (.indexS (tm 16) (ci 8)),.U .eql 84,.A,.a 11] (c_ 11 (.seq (.region (D_ [.m 0,.g (.subS (tm 20) none (some (ci 8))),.m 0,.g (.subS (tm 22) (some (ci 9)) none),.J 2 (cu 2),.M 3 21,.a 4,.J 5 (cb true)] 20) .calm [20,23]) .ret) (R_ 25 37 [.m 0,.h,.E 16,.z,.m 0,.g (.indexS (tm 29) (ci 8)),.U .eql 84,.A,.z,.m 0,.g (.indexS (tm 34) (ci 15)),.U .eql 90,.A,.a 24] (c_ 24 (.seq (.region (D_ [.m 0,.g (.subS (tm 38) none (some (ci 8))),.m 0,.g (.subS (tm 40) (some (ci 9)) (some (ci 15))),.J 2 (cu 3),.M 3 39,.a 4,.J 5 (cb true)] 38) .calm [38,41]) .ret) .skip))))))) (Q_ 2 [.K (cu 0),.K (cs []),.K (cs []),.K (cb false)] .ret))
theorem Ll:FnOk T_ 192 BU [.tmp 2,.tmp 3,.tmp 4,.tmp 5] 42:=fK_ Tryz.func192
def yk:VCode:=Q_ 4 [.K (.const .nils),.K (cb false)] (Q_ 6 [.K (.const .nils)] (.seq (Q_ 10 [.m 1,.v,.n 0] (.block 0 (.loop (Q_ 13 [.g (.bin .lss (tm 12) (tm 11))] (.seq (c_ 13 .skip (.exit 0)) (.seq (.block 1 (R_ 14 15 [.g (.indexAddr 1 (tm 10) (tm 12)),.l,.a 8] (Q_ 9 [.n 0] (.seq (.block 2 (.loop (.seq (C_ 16 16 [.m 8,.i .gtr 0] .skip (.exit 2)) (.seq (.block 3 (.seq (C_ 20 30 [.m 0,.t [],.w,.m 0,.g (.indexS (tm 23) (ci 0)),.U .lss 48,.O,.w,.m 0,.g (.indexS (tm 28) (ci 0)),.U .gtr 57,.O] (Q_ 4 [.K (.const .nils),.K (cb false)] .ret) .skip) (.region (D_ [.m 9,.i .mul 10,.m 0,.g (.indexS (tm 34) (ci 0)),.U .sub 48,.g (.convI .i64 (tm 36)),.g (.bin .add (tm 33) (tm 37)),.m 0,.g (.subS (tm 39) (some (ci 1)) none),.M 9 38,.a 0] 32) .calm [32,40]))) (X_ 18 19 [.m 8,.i .sub 1,.a 8]))))) (X_ 41 44 [.m 6,.m 9,.g (.buildSlice 1 1 (z_ [.i]) [(0,1,tm 42)]),.g (.append 3 1 8 (tm 41) (tm 43)),.a 6]))))) (X_ 45 45 [.g (.bin .add (tm 12) (ci 1)),.a 12]))))))) (R_ 46 48 [.m 6,.m 0,.t [],.M 4 46,.a 5] .ret)))
theorem GK:FnOk T_ 193 yk [.tmp 4,.tmp 5] 49:=fK_ Tryz.func193
def zN:VCode:=Q_ 2 [.K (cb false)] (R_ 3 8 [.m 0,.i .geq 1,.z,.m 0,.i .leq 9999,.A,.a 2] .ret)
theorem IE:FnOk T_ 212 zN [.tmp 2] 9:=fK_ Tryz.func212
def ym:VCode:=Q_ 2 [.n 0] (.seq (C_ 3 4 [.m 0,.c1 111,.u] (Q_ 2 [.n (-1)] .ret) .skip) (R_ 6 7 [.m 0,.i .rem 7,.a 2] .ret))
theorem GL:FnOk T_ 249 ym [.tmp 2] 8:=fK_ Tryz.func249
def BW:VCode:=Q_ 2 [.n 0] (.seq (C_ 5 6 [.m 0,.c1 111,.u] (Q_ 2 [.n 0] .ret) .skip) (G_ 9 [.m 0,.c1 112,.a 8,.e 8 0,.e 8 1,.M 3 11,.a 4] [3,3,8,12] (R_ 13 14 [.m 4,.P 1,.a 2] .ret)))
theorem Lm:FnOk T_ 266 BW [.tmp 2] 15:=fK_ Tryz.func266
end Go.Vs.Y
namespace Go.Vs.Y.Rc
open Go.Proofs Go.Vs.Cv
def yr(y:Nat):Bool:=decide (1<=y/\y<=9999)
theorem R3{y:Nat}(h:1<=y/\y<=9999):yr y=true:=by simp[yr];omega
theorem XA{y:Nat}(h:¬(1<=y/\y<=9999)):yr y=false:=by simp[yr];omega
theorem GM(y:Nat)(h:y<1000000):Fn G2 T_ 212 [.int .i64 y] (.bool (yr y)):=by
 refine ae hm IE (by simp) ?_;simp[zN];by_cases a:1<=y
 .by_cases b:y<=9999
  .rw[R3 ⟨a,b⟩];simp(disch:=omega)[wl];omega
  rw[XA (by omega)];simp(disch:=omega)[wl];omega
 rw[XA (by omega)];simp(disch:=omega)[wl]
theorem tm4(y k:Nat)(a:0<k):(y:Int).tmod (k:Int)=((y%k:Nat):Int):=by
 rw[Int.tmod_eq_emod_of_nonneg (by omega)];exact(Int.natCast_emod y k).symm
theorem MX(y k:Nat)(a:0<k):(y:Int).tdiv (k:Int)=((y/k:Nat):Int):=by
 rw[Int.tdiv_eq_ediv_of_nonneg (by omega)];exact(Int.natCast_ediv y k).symm
theorem XB(y:Nat)(h:y<1000000):Fn G2 T_ 164 [.int .i64 y] (.bool (yr y&&yC y)):=by
 refine ae hm Nz (by simp) ?_;have n:=GM y h;have e1:(y:Int).tmod 4=((y%4:Nat):Int):=tm4 y 4 (by omega);have e2:(y:Int).tmod 100=((y%100:Nat):Int):=tm4 y 100 (by omega);have d:(y:Int).tmod 400=((y%400:Nat):Int):=tm4 y 400 (by omega);obtain⟨a,k⟩:=A_ (y%4);obtain⟨b,l⟩:=A_ (y%100);obtain⟨c,m⟩:=A_ (y%400);have i:c=0->a=0:=by omega
 have o:yC y=((decide (a=0)&&decide (b≠0))||decide (c=0)):=by unfold yC;rw[k,l,m]
 rw[k]at e1;rw[l]at e2;rw[m]at d;rw[o];simp[ER];refine aa n ?_;cases p:yr y with
 |false=>simp(disch:=omega)[wl]
 |true=>
  by_cases f:a=0
  .by_cases j:b=0
   .by_cases g:c=0
    .simp(disch:=omega)[wl,e1,e2,d,f,j,g]
    simp(disch:=omega)[wl,e1,e2,d,f,j,g]
   simp(disch:=omega)[wl,e1,e2,d,f,j]
  have g:¬c=0:=fun e=>f (i e)
  simp(disch:=omega)[wl,e1,e2,d,f,g]
theorem zP(y m:Nat)(i:1<=y/\y<=9999)(j:1<=m)(k:m<=13):Fn G2 T_ 113 [.int .i64 y,.int .i64 m] (.int .i64 (ej y m:Nat)):=by
 refine ae hm Lk (by simp) ?_;have a:=XB y (by omega);rw[R3 i,Bool.true_and]at a;obtain⟨r,b⟩:=acE j k
 have l:Wh.getD (m-1) 0=((before m:Nat):Int):=by
  have:m=1\/m=2\/m=3\/m=4\/m=5\/m=6\/m=7\/m=8\/m=9\/m=10\/m=11\/m=12\/m=13:=by omega
  rcases this with rfl|rfl|rfl|rfl|rfl|rfl|rfl|rfl|rfl|rfl|rfl|rfl|rfl<;>rfl
 have f:before m<=365:=by
  unfold before;split<;>omega
 rw[l]at b;have e0:((m:Int)-1).toNat=m-1:=by omega
 have e1:(0:Int)<=(m:Int)-1:=by omega
 obtain⟨B,d⟩:=A_ (before m);rw[d]at b f;simp[BS,G2];by_cases g:2<m
 .cases e:yC y with
  |true=>
   have c:ej y m=B+1:=by unfold ej;rw[d,if_pos ⟨g,e⟩]
   rw[e]at a;rw[c];simp(disch:=omega)[wl,e0,e1,b];refine⟨by omega,?_⟩;refine aa a ?_;simp(disch:=omega)[wl]
  |false=>
   have c:ej y m=B:=by unfold ej;rw[d,if_neg (by simp[e])];rfl
   rw[e]at a;rw[c];simp(disch:=omega)[wl,e0,e1,b];refine⟨by omega,?_⟩;refine aa a ?_;simp(disch:=omega)[wl]
 have c:ej y m=B:=by unfold ej;rw[d,if_neg (fun h=>g h.1)];rfl
 rw[c];simp(disch:=omega)[wl,e0,e1,b];omega
def re(y m:Nat):Nat:=if 1<=y/\y<=9999/\1<=m/\m<=12 then jF y m else 0
theorem ET(y m:Nat):ej y m<=366:=by
 have:before m<=365:=by unfold before;split<;>omega
 unfold ej;split<;>omega
theorem Jf(y m:Nat):jF y m<=31:=by
 unfold jF fO
 repeat' split
 all_goals omega
theorem afy(y m:Nat):re y m<=31:=by
 unfold re;split
 .exact Jf y m
 omega
theorem Wi(y m:Nat)(l:y<1000000)(n:m<1000000):Fn G2 T_ 157 [.int .i64 y,.int .i64 m] (.int .i64 (re y m:Nat)):=by
 refine ae hm R1 (by simp) ?_;have o:=GM y l;simp[HV];refine aa o ?_;by_cases f:1<=y/\y<=9999
 .rw[R3 f];by_cases g:1<=m
  .by_cases i:m<=12
   .have c:re y m=jF y m:=by unfold re;rw[if_pos ⟨f.1,f.2,g,i⟩]
    have j:=lF y g i;have p:=ET y m;have q:=ET y (m+1);have h:=zP y (m+1) f (by omega) (by omega);have k:=zP y m f g (by omega);rw[show((m+1:Nat):Int)=(m:Int)+1 by omega]at h;obtain⟨a,s⟩:=A_ (ej y (m+1));obtain⟨b,u⟩:=A_ (ej y m);rw[s]at h j q;rw[u]at k j p;have e:((a:Int)-(b:Int))=((jF y m:Nat):Int):=by omega
    rw[c];simp(disch:=omega)[wl];refine aa h ?_;simp(disch:=omega)[wl];refine aa k ?_;simp(disch:=omega)[wl,e]
   have c:re y m=0:=by unfold re;rw[if_neg (by omega)]
   rw[c];simp(disch:=omega)[wl]
  have c:re y m=0:=by unfold re;rw[if_neg (by omega)]
  rw[c];simp(disch:=omega)[wl]
 have c:re y m=0:=by unfold re;rw[if_neg (by omega)]
 rw[XA f,c];simp(disch:=omega)[wl]
def R4(y m d:Nat):Nat×Int:=if d<1\/re y m<d then (0,8)else (dO y m d,0)
def I0(p:Nat×Int):IV:=.tuple [.int .i64 (p.1:Nat),.int .i64 p.2]
theorem Wj(y m d:Nat)(z:y<1000000)(i:m<1000000)(C:d<1000000):Fn G2 T_ 158 [.int .i64 y,.int .i64 m,.int .i64 d] (I0 (R4 y m d)):=by
 refine ae hm R2 (by simp) ?_;have k:=Wi y m z i;obtain⟨R,e⟩:=A_ (R4 y m d);rw[e];unfold R4 at e;simp[HY];by_cases l:d<1
 .rw[if_pos (.inl l)]at e;subst e;simp(disch:=omega)[wl,I0]
 by_cases g:re y m<d
 .rw[if_pos (.inr g)]at e;subst e;simp(disch:=omega)[wl];refine aa k ?_;simp(disch:=omega)[wl,I0]
 rw[if_neg (fun h=>h.elim l g)]at e;subst e
 have j:1<=y/\y<=9999/\1<=m/\m<=12:=by
  by_cases h:1<=y/\y<=9999/\1<=m/\m<=12
  .exact h
  unfold re at g;rw[if_neg h]at g;omega
 have n:=zP y m ⟨j.1,j.2.1⟩ j.2.2.1 (by omega);have A:=ET y m;have D:=afy y m;obtain⟨p,E⟩:∃p,y=p+1:=⟨y-1,by omega⟩;have e0:(y:Int)-1=(p:Int):=by omega
 have o:(p:Int).tdiv 4=((p/4:Nat):Int):=MX p 4 (by omega);have q:(p:Int).tdiv 100=((p/100:Nat):Int):=MX p 100 (by omega);have s:(p:Int).tdiv 400=((p/400:Nat):Int):=MX p 400 (by omega);obtain⟨U,f⟩:=A_ (ej y m)
 have u:dO y m d=p*365+p/4-p/100+p/400+U+d-1:=by
  unfold dO Cv.ahead;rw[f,show y-1=p by omega]
 rw[f]at n A;obtain⟨a,v⟩:=A_ (p/4);obtain⟨b,w⟩:=A_ (p/100);obtain⟨c,x⟩:=A_ (p/400);rw[v]at o;rw[w]at q;rw[x]at s;rw[v,w,x]at u;have B:b<=a/\a<=p/\c<=p:=by omega
 rw[u];simp(disch:=omega)[wl];refine aa k ?_;simp(disch:=omega)[wl,e0,o,q,s];refine aa n ?_;simp(disch:=omega)[wl,I0];omega
theorem Lo(n:Nat)(h:n<=3652058):Fn G2 T_ 111 [.int .i64 n] (.bool true):=by
 refine ae hm Li (by simp) ?_;simp[BO];omega
theorem TK(n:Nat)(h:n<=3652058):Fn G2 T_ 112 [.int .i64 n] (.tuple [.int .i64 ((fP n).1:Nat),.int .i64 ((fP n).2:Nat)]):=by
 refine ae hm Lj (by simp) ?_;obtain⟨a,m⟩:=A_ (n/146097);obtain⟨e,o⟩:=A_ (n%146097);obtain⟨i,f⟩:=A_ (e/36524);obtain⟨c,u⟩:=A_ (min i 3);obtain⟨b,v⟩:=A_ (e-c*36524);obtain⟨q,p⟩:=A_ (b/1461);obtain⟨d,s⟩:=A_ (b%1461);obtain⟨j,g⟩:=A_ (d/365);obtain⟨k,w⟩:=A_ (min j 3)
 have x:fP n=(1+a*400+100*c+4*q+k,d-k*365):=by
  unfold fP;simp only[m,o,f,u,v,p,s,g,w]
 have z:(n:Int).tdiv 146097=(a:Int):=by rw[<-m];exact MX n 146097 (by omega)
 have A:(n:Int).tmod 146097=(e:Int):=by rw[<-o];exact tm4 n 146097 (by omega)
 have B:(e:Int).tdiv 36524=(i:Int):=by rw[<-f];exact MX e 36524 (by omega)
 have C:min (i:Int) 3=(c:Int):=by omega
 have D:(e:Int)-(c:Int)*36524=(b:Int):=by omega
 have E:(b:Int).tdiv 1461=(q:Int):=by rw[<-p];exact MX b 1461 (by omega)
 have F:(b:Int).tmod 1461=(d:Int):=by rw[<-s];exact tm4 b 1461 (by omega)
 have H:(d:Int).tdiv 365=(j:Int):=by rw[<-g];exact MX d 365 (by omega)
 have I:min (j:Int) 3=(k:Int):=by omega
 have l:(d:Int)-(k:Int)*365=((d-k*365:Nat):Int):=by omega
 have J:a<=25/\c<=3/\q<=100/\k<=3:=by omega
 rw[x];simp only;simp[BQ];simp(disch:=omega)[wl,z,A,B,C,D,E,F,H,I,l];omega
theorem Jg(n:Nat)(h:n<=3652058):Fn G2 T_ 69 [.int .i64 n] (.tuple [.int .i64 ((bn n).1:Nat),.int .i64 ((bn n).2.1:Nat),.int .i64 ((bn n).2.2:Nat),.int .i64 0]):=by
 refine ae hm Nx (by simp) ?_;have E:=Lo n h;have l:=TK n h;obtain⟨y,m,d,o,B,s,C,O,P,F,g⟩:=EI h;obtain⟨⟨Y,t⟩,b⟩:=A_ (fP n)
 have H:Y=y:=by
  have:=congrArg Prod.fst g;unfold bn at this;rw[b]at this;exact this
 have a:GF Y t=m:=by
  have:=congrArg (fun p=>p.2.1) g;unfold bn at this;rw[b]at this;exact this
 have x:t-ej Y m+1=d:=by
  have:=congrArg (fun p=>p.2.2) g;unfold bn at this;rw[b]at this;simp only[a]at this;exact this
 subst H;rw[b]at l;simp only at l;have Q:=ET Y m;have R:=Jf Y m;have I:=EH Y s C;have J:=lF Y s C;have K:fO Y<=366:=by unfold fO;split<;>omega
 have z:ej Y m<=t/\t<366:=by
  have c:fP n=(Y,ej Y m+d-1):=by
   have e:n=Cv.ahead Y+(ej Y m+d-1):=by rw[<-F];unfold dO;omega
   rw[e];exact qA o (by omega)
  rw[b]at c;have:=congrArg Prod.snd c;simp only at this;omega
 have f:(t:Int).tdiv 32=((t/32:Nat):Int):=MX t 32 (by omega);have j:=zP Y (t/32+2) ⟨o,B⟩ (by omega) (by omega);rw[show((t/32+2:Nat):Int)=((t/32:Nat):Int)+1+1 by omega]at j;have A:=zP Y m ⟨o,B⟩ s (by omega);rw[g];simp only;unfold GF at a;obtain⟨k,L⟩:=A_ (t/32);rw[L]at f j a;obtain⟨u,D⟩:=A_ (ej Y (k+2));obtain⟨v,M⟩:=A_ (ej Y m);rw[D]at j a;rw[M]at A z x;have N:u<=366:=by rw[<-D];exact ET _ _
 simp[EN];refine aa E ?_;simp(disch:=omega)[wl];refine aa l ?_;simp(disch:=omega)[wl,f];refine aa j ?_;by_cases q:u<=t
 .rw[if_pos q]at a;have e:(k:Int)+1+1=(m:Int):=by omega
  simp(disch:=omega)[wl,e];refine aa A ?_;simp(disch:=omega)[wl];omega
 rw[if_neg q]at a;have e:(k:Int)+1=(m:Int):=by omega
 simp(disch:=omega)[wl,e];refine aa A ?_;simp(disch:=omega)[wl];omega
end Go.Vs.Y.Rc
