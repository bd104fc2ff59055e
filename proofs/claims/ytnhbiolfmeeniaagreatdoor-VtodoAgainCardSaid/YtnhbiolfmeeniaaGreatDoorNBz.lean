/- A part of a proof. No conditions. -/
import Derived.Test.YtnhbiolfmeeniaaGreatDoorBKz
set_option linter.all false
set_option maxRecDepth 100000
set_option maxHeartbeats 4000000
namespace Go.Vs.Y
open Go.Proofs Go.Vs.U8 Go.Vs.Pa Go.Vs.Nu Go.Lib
def dT(digits:Nat)(h hi:Int)(a:Bool)(s:Str):Int×Int:=
 let g:Bool:=a&&(decide (s[0]?=some 43)||decide (s[0]?=some 45))
 let b:=if g then s.drop 1 else s
 if b=[]\/digits<b.length\/b.all eI=false then (0,4)
 else if (bE 0 b:Int)<h\/hi<(bE 0 b:Int)then (0,8)
 else (if g=true/\s[0]?=some 45 then -(bE 0 b:Int)else (bE 0 b:Int),0)
inductive GotE(α:Type) where
 |no (e:Int) (p:Nat)
 |ok (l:List α)
def fL{b:Type} [DecidableEq b](one:Str->b×Int):List Str->Nat->List b->GotE b
 |[],_,a=>.ok a
 |x::r,at',a=>if a.length=12 then .no 20 at' else
  if (one x).2≠0 then .no (one x).2 at'
  else if (one x).1∈a then .no 19 at'
  else fL one r (at'+x.length+1) (a++[(one x).1])
def cS{a:Type} [DecidableEq a](one:Str->a×Int)(s:Str):GotE a:=fL one (parts 44 s) 0 []
theorem VS{c:UInt8}{x:Str}(h:c∉x)(r:Str):parts c (x++c::r)=x::parts c r:=by
 have a:(x++c::r)[x.length]?=some c:=by rw[List.getElem?_append_right (Nat.le_refl _),Nat.sub_self];rfl
 have:=KF a (by rw[List.take_left];exact h);rw[this,List.take_left];congr 2;rw[show x.length+1=(x++[c]).length by simp,show x++c::r=(x++[c])++r by simp,List.drop_left]
theorem xv{c:UInt8} : ∀ {l:List Str},l≠[]->(∀x∈l,c∉x)->parts c (join l [c])=l
 |[],h,_=>absurd rfl h
 |[x],_,h=>by rw[join_one,tq (h x (by simp))]
 |x::y::r,_,h=>by
  have b:=xv (c:=c) (l:=y::r) (by simp) (fun z a=>h z (by simp at a |-;exact .inr a))
  have e:join (x::y::r) [c]=x++c::join (y::r) [c]:=by
   rw[join_cons,join_cons];simp[joinTail]
  rw[e,VS (h x (by simp)),b]
theorem Db{b:Type} [DecidableEq b]{one:Str->b×Int}{text:b->Str} : ∀(l:List b) (k:Nat) (a:List b),(∀x∈l,one (text x)=(x,0))->(a++l).Nodup->(a++l).length<=12->fL one (l.map text) k a=.ok (a++l)
 |[],k,a,_,_,_=>by simp[fL]
 |x::r,k,a,h,c,e=>by
  have f:=h x (by simp);simp only[List.map_cons,fL,f]
  have d:x∉a:=by
   intro d;rw[List.nodup_append]at c;exact c.2.2 x d x (by simp) rfl
  simp at e;rw[if_neg (by omega),if_neg (by simp),if_neg d];have g:=Db r (k+(text x).length+1) (a++[x]) (fun y i=>h y (by simp[i])) (by simpa using c) (by simp;omega);rw[g];simp
theorem VT{l:Str}(h:l.all eI=true){c:UInt8}(a:eI c=false):c∉l:=fun hm=>by
 have:=List.all_eq_true.1 h c hm;rw[a]at this;cases this
theorem tv(u:Nat):itoa (u:Int)=decDigits u:=by unfold itoa;rw[if_neg (by omega)];simp
theorem Dc(u:Nat)(h:1<=u):itoa (-(u:Int))=45::decDigits u:=by unfold itoa;rw[if_pos (by omega)];simp
theorem AN(n:Int){c:UInt8}(b:eI c=false)(a:c≠45):c∉itoa n:=by
 unfold itoa;split
 .simp only[List.mem_cons,not_or];exact⟨a,VT (xn _) b⟩
 exact VT (xn _) b
theorem aca{l:Str}(h:l.all eI=true):l[0]?≠some 43/\l[0]?≠some 45:=by
 constructor<;>intro e <;>
 .have:=List.all_eq_true.1 h _ (List.mem_of_getElem? e);exact absurd this (by decide)
theorem Ti{digits:Nat}{lo hi:Int}{n:Int}(d:lo<=n.natAbs)(f:(n.natAbs:Int)<=hi)(g:(decDigits n.natAbs).length<=digits):dT digits lo hi true (itoa n)=(n,0):=by
 obtain⟨u,h⟩:=A_ n.natAbs;rw[h]at d f g;have a:=xn u;have b:=Ky u;have c:=VM u;by_cases l:n<0
 .have e:n = -(u:Int):=by omega
  rw[e,Dc u (by omega)];simp only[dT];have i:(45::decDigits u)[0]?=some 45:=rfl;rw[i];simp only[decide_true,Bool.or_true,Bool.and_self,Bool.true_and,if_true,List.drop_succ_cons,List.drop_zero];rw[if_neg (by rw[a];simp only[not_or];exact⟨c,by omega,by simp⟩),b,if_neg (by omega),if_pos ⟨trivial,trivial⟩]
 have e:n=(u:Int):=by omega
 rw[e,tv u];obtain⟨j,k⟩:=aca a;simp only[dT];simp only[j,k,decide_false,Bool.or_false,Bool.and_false,Bool.false_eq_true,if_false,false_and];rw[if_neg (by rw[a];simp only[not_or];exact⟨c,by omega,by simp⟩),b,if_neg (by omega)]
def Iv(s:Str):Int:=
 if s=[77,79]then 0 else if s=[84,85]then 1 else if s=[87,69]then 2 else if s=[84,72]then 3 else if s=[70,82]then 4 else if s=[83,65]then 5 else if s=[83,85]then 6 else -1
def acb:Str:=[77,79,84,85,87,69,84,72,70,82,83,65,83,85]
def yB(d:Int):Str:=if d<0\/6<d then []else (acb.drop (2*d.toNat)).take 2
abbrev Dn:=Int×Int
def tw(s:Str):Dn×Int:=
 if s.length<2 then ((0,0),4)
 else if Iv (s.drop (s.length-2))<0 then ((0,0),4)
 else if s.length=2 then ((0,Iv (s.drop (s.length-2))),0)
 else if (dT 2 1 53 true (s.take (s.length-2))).2≠0 then ((0,0),(dT 2 1 53 true (s.take (s.length-2))).2)
 else (((dT 2 1 53 true (s.take (s.length-2))).1,Iv (s.drop (s.length-2))),0)
def dayT(x:Dn):Str:=(if x.1=0 then []else itoa x.1)++yB x.2
theorem Tj{d:Int}(a:0<=d)(b:d<=6):d=0\/d=1\/d=2\/d=3\/d=4\/d=5\/d=6:=by omega
theorem Jc{d:Int}(a:0<=d)(b:d<=6):Iv (yB d)=d/\(yB d).length=2:=by
 rcases Tj a b with rfl|rfl|rfl|rfl|rfl|rfl|rfl<;>decide
theorem Zi(s:Str):-1<=Iv s/\Iv s<=6:=by
 unfold Iv
 repeat' split
 all_goals omega
theorem ahZ{d:Int} : 44∉yB d:=by
 unfold yB;split
 .simp
 intro h;have:=List.mem_of_mem_take h;have:=List.mem_of_mem_drop this;revert this;decide
theorem acd{n:Int}(a:-99<=n)(b:n<=99):(decDigits n.natAbs).length<=2:=xo 1 n.natAbs (by omega)
theorem Tk(n:Int):1<=(itoa n).length:=by
 unfold itoa;split
 .simp
 exact Xm _
theorem ace{x:Dn}(i:-53<=x.1)(j:x.1<=53)(c:0<=x.2)(f:x.2<=6):tw (dayT x)=(x,0):=by
 obtain⟨n,d⟩:=x;simp only at i j c f;obtain⟨g,a⟩:=Jc c f;by_cases h:n=0
 .subst h;have e:dayT (0,d)=yB d:=by simp[dayT]
  rw[e];simp only[tw,a];have:(yB d).drop (2-2)=yB d:=rfl;rw[this,g,if_neg (by omega),if_neg (by omega),if_pos trivial]
 have e:dayT (n,d)=itoa n++yB d:=by simp[dayT,h]
 have m:=Tk n;have o:(itoa n++yB d).length-2=(itoa n).length:=by rw[List.length_append,a];omega
 have k:(itoa n++yB d).length=(itoa n).length+2:=by rw[List.length_append,a]
 rw[e];have b:(itoa n).length+2-2=(itoa n).length:=by omega
 simp only[tw,k,b,List.drop_left,List.take_left,g];have l:=Ti (digits:=2) (lo:=1) (hi:=53) (n:=n) (by omega) (by omega) (acd (by omega) (by omega));rw[if_neg (by omega),if_neg (by omega),if_neg (by omega),l];simp
theorem ah0(x:Dn):44∉dayT x:=by
 simp only[dayT,List.mem_append,not_or];refine⟨?_,ahZ⟩;split
 .simp
 exact AN _ (by decide) (by decide)
def m6(l:List Int):Str:=join (l.map itoa) [44]
def m7(l:List Dn):Str:=join (l.map dayT) [44]
theorem Zj{l:List Dn}(b:l≠[])(c:l.Nodup)(d:l.length<=12)(h:∀x∈l,-53<=x.1/\x.1<=53/\0<=x.2/\x.2<=6):cS tw (m7 l)=.ok l:=by
 unfold cS m7
 rw[xv (by simp[b]) (by
  intro x e;obtain⟨n,_,rfl⟩:=List.mem_map.1 e
  exact ah0 _)]
 have:=Db (one:=tw) (text:=dayT) l 0 [] (fun n a=>ace (h n a).1 (h n a).2.1 (h n a).2.2.1 (h n a).2.2.2) (by simpa using c) (by simpa using d);simpa using this
end Go.Vs.Y
namespace Go.Vs.Y
open Go.Proofs
def KI:VCode:=Q_ 8 [.n 0,.K (.const (.val .nili))] (V_ 13 19 [.m 0,.m 1,.m 2,.m 3,.g (.call 141 [tm 13,ci 5,tm 14,tm 15,tm 16]),.a 12,.e 12 0,.e 12 1,.M 10 18,.a 11] (R_ 20 22 [.m 10,.m 11,.g (.call 22 [tm 21,ci 0]),.M 8 20,.a 9] .ret))
theorem Tl:FnOk T_ 95 KI [.tmp 8,.tmp 9] 23:=fK_ Tryz.func95
def wx:VCode:=Q_ 2 [.K (cs [])] (R_ 3 4 [.m 0,.g (.call 165 [tm 3,.func 166]),.a 2] .ret)
theorem Et:FnOk T_ 115 wx [.tmp 2] 5:=fK_ Tryz.func115
def Eu:VCode:=Q_ 2 [.K (cs [])] (R_ 3 4 [.m 0,.g (.call 167 [tm 3,.func 47]),.a 2] .ret)
theorem Nm:FnOk T_ 116 Eu [.tmp 2] 5:=fK_ Tryz.func116
def tA:VCode:=Q_ 2 [.K (cs [])] (.seq (C_ 3 7 [.m 0,.i .lss 0,.w,.m 0,.i .gtr 6,.O] (Q_ 2 [.K (cs [])] .ret) .skip) (R_ 9 12 [.m 0,.g (.bin .mul (ci 2) (tm 9)),.g (.subS (cs [77,79,84,85,87,69,84,72,70,82,83,65,83,85]) (some (tm 10)) none),.g (.subS (tm 11) none (some (ci 2))),.a 2] .ret))
theorem B2:FnOk T_ 118 tA [.tmp 2] 13:=fK_ Tryz.func118
def By:VCode:=Q_ 10 [.n 0,.n 0] (Q_ 12 [.K (cb false)] (.cut (.seq (C_ 15 24 [.m 4,.z,.m 0,.g (.bin .neq (tm 17) (cs [])),.A,.z,.m 0,.g (.indexS (tm 21) (ci 0)),.g (.call 109 [cs [43,45],tm 22]),.i .geq 0,.A] (.region (D_ [.m 0,.g (.indexS (tm 26) (ci 0)),.U .eql 45,.m 0,.g (.subS (tm 29) (some (ci 1)) none),.M 12 28,.a 0] 26) .calm [26,30]) .skip) (.seq (C_ 31 42 [.m 0,.t [],.w,.m 0,.h,.m 1,.b .gtr,.O,.w,.m 0,.g (.call 199 [tm 40,cs [48,49,50,51,52,53,54,55,56,57]]),.g (.bin .neq (tm 41) (cs [])),.O] (Q_ 10 [.n 0,.n 4] .ret) .skip) (Q_ 13 [.n 0] (.cut (.seq (Q_ 14 [.n 0] (.block 0 (.loop (.seq (C_ 44 46 [.m 14,.m 0,.h,.b .lss] .skip (.exit 0)) (.seq (.block 1 (X_ 50 57 [.m 13,.g (.bin .mul (ci 10) (tm 50)),.m 0,.m 14,.y,.U .sub 48,.g (.convI .i64 (tm 55)),.g (.bin .add (tm 51) (tm 56)),.a 13])) (X_ 48 49 [.m 14,.P 1,.a 14])))))) (.seq (C_ 58 64 [.m 13,.m 2,.b .lss,.w,.m 13,.m 3,.b .gtr,.O] (Q_ 10 [.n 0,.n 8] .ret) .skip) (.cut (.seq (Q_ 66 [.m 12] (c_ 66 (X_ 67 68 [.m 13,.g (.un .neg (tm 67)),.a 13]) .skip)) (R_ 69 69 [.m 13,.a 10,.j 11 0] .ret)))))))))))
theorem KK:FnOk T_ 141 By [.tmp 10,.tmp 11] 70:=fK_ Tryz.func141
def rA:VCode:=Q_ 4 [.K (cs [])] (.seq (C_ 7 11 [.m 0,.t [],.w,.m 1,.t [],.O] (R_ 13 13 [.m 0,.a 4] .ret) .skip) (.seq (C_ 14 20 [.m 1,.h,.E 1,.z,.m 1,.g (.indexS (tm 18) (ci 0)),.U .lss 128,.A] (R_ 22 25 [.m 0,.m 1,.g (.indexS (tm 23) (ci 0)),.g (.call 206 [tm 22,tm 24]),.a 4] .ret) .skip) (.seq (V_ 27 30 [.m 1,.c1 207,.a 26,.e 26 0,.e 26 1,.Y 5 Kz,.T 256 5 29,.a 6] (Q_ 31 [.m 6] (c_ 31 (R_ 32 33 [.m 0,.g (.call 208 [tm 32,tm 5]),.a 4] .ret) .skip))) (R_ 34 36 [.m 0,.m 1,.c2 209,.a 4] .ret))))
theorem zo:FnOk T_ 148 rA [.tmp 4] 37:=fK_ Tryz.func148
def rC:VCode:=Q_ 4 [.K (cs []),.K (cb false)] (R_ 6 10 [.m 0,.m 1,.c2 210,.e 8 0,.e 8 1,.M 4 9,.a 5] .ret)
theorem zp:FnOk T_ 149 rC [.tmp 4,.tmp 5] 11:=fK_ Tryz.func149
def pk:VCode:=Q_ 4 [.K (cb false)] (R_ 5 8 [.m 0,.m 1,.c2 215,.i .geq 0,.a 4] .ret)
theorem oD:FnOk T_ 162 pk [.tmp 4] 9:=fK_ Tryz.func162
def km:VCode:=Q_ 4 [.K (cs [])] (Q_ 5 [.g (.allocB 223)] (.seq (Q_ 8 [.m 0,.v,.n 0] (.block 0 (.loop (Q_ 11 [.g (.bin .lss (tm 10) (tm 9))] (.seq (c_ 11 .skip (.exit 0)) (.seq (.block 1 (R_ 12 14 [.m 10,.g (.indexAddr 2 (tm 8) (tm 10)),.L 2,.Y 7 z_9,.M 6 12,.s 2 7] (.seq (C_ 15 15 [.m 6,.i .gtr 0] (X_ 17 17 [.g (.callM 132 [tm 5,cu 44])]) .skip) (X_ 18 21 [.m 1,.W 2 7,.g (.callV (tm 18) [tm 19]),.g (.callM 169 [tm 5,tm 20])])))) (X_ 22 22 [.g (.bin .add (tm 10) (ci 1)),.a 10]))))))) (R_ 23 23 [.g (.callM 133 [tm 5]),.a 4] .ret)))
theorem qV:FnOk T_ 165 km [.tmp 4] 24:=fK_ Tryz.func165
def tC:VCode:=Q_ 1 [.X 0,.K (cs [])] (.seq (C_ 3 4 [.F 0 1,.l,.E 0] (R_ 6 8 [.F 1 1,.l,.c1 118,.a 2] .ret) .skip) (.seq (.region (D_ [.F 0 1,.l,.c1 47,.F 1 1,.l,.c1 118,.b .add,.a 2] 9) (.drawn [(2,3),(2,4)] (wd [(2,[(0,1),(3,4)]),(5,[(0,4)])])) [9,15]) .ret))
theorem B3:FnOk T_ 166 tC [.tmp 2] 16:=fK_ Tryz.func166
def mr:VCode:=Q_ 4 [.K (cs [])] (Q_ 5 [.g (.allocB 223)] (.seq (Q_ 8 [.m 0,.v,.n 0] (.block 0 (.loop (Q_ 11 [.g (.bin .lss (tm 10) (tm 9))] (.seq (c_ 11 .skip (.exit 0)) (.seq (.block 1 (R_ 12 14 [.m 10,.g (.indexAddr 1 (tm 8) (tm 10)),.l,.M 6 12,.a 7] (.seq (C_ 15 15 [.m 6,.i .gtr 0] (X_ 17 17 [.g (.callM 132 [tm 5,cu 44])]) .skip) (X_ 18 21 [.m 1,.m 7,.g (.callV (tm 18) [tm 19]),.g (.callM 169 [tm 5,tm 20])])))) (X_ 22 22 [.g (.bin .add (tm 10) (ci 1)),.a 10]))))))) (R_ 23 23 [.g (.callM 133 [tm 5]),.a 4] .ret)))
theorem ur:FnOk T_ 167 mr [.tmp 4] 24:=fK_ Tryz.func167
def mw:VCode:=Q_ 3 [.X 1,.K (cb false)] (R_ 5 8 [.m 0,.W 2 3,.c2 218,.i .geq 0,.a 4] .ret)
theorem ut:FnOk T_ 170 mw [.tmp 4] 9:=fK_ Tryz.func170
def zq:VCode:=Q_ 4 [.K (cs [])] (.seq (C_ 7 11 [.m 0,.t [],.w,.m 1,.t [],.O] (R_ 13 13 [.m 0,.a 4] .ret) .skip) (.seq (C_ 14 20 [.m 1,.h,.E 1,.z,.m 1,.g (.indexS (tm 18) (ci 0)),.U .lss 128,.A] (.seq (.region (D_ [.m 0,.m 1,.g (.indexS (tm 23) (ci 0)),.g (.call 206 [tm 22,tm 24]),.m 1,.g (.indexS (tm 26) (ci 0)),.g (.call 236 [tm 25,tm 27]),.a 4] 22) (.drawn [(3,4),(3,5)] (wd [(3,[(0,2),(4,5)]),(6,[(0,5)])])) [22,28]) .ret) .skip) (.seq (V_ 30 33 [.m 1,.c1 207,.a 29,.e 29 0,.e 29 1,.Y 5 Kz,.T 256 5 32,.a 6] (Q_ 34 [.m 6] (c_ 34 (R_ 35 37 [.m 0,.g (.call 208 [tm 35,tm 5]),.g (.call 237 [tm 36,tm 5]),.a 4] .ret) .skip))) (R_ 38 42 [.m 0,.m 1,.c2 209,.m 1,.c2 238,.a 4] .ret))))
theorem Iw:FnOk T_ 199 zq [.tmp 4] 43:=fK_ Tryz.func199
def HG:VCode:=Q_ 2 [.K (.const .nils),.K (.const (.val .nili))] (R_ 4 7 [.m 0,.g (.call 240 [tm 4,.func 241]),.e 5 0,.e 5 1,.M 2 6,.a 3] .ret)
theorem QI:FnOk T_ 202 HG [.tmp 2,.tmp 3] 8:=fK_ Tryz.func202
def HI:VCode:=Q_ 5 [.X 1,.X 2,.X 3,.K (.const .nils),.K (.const (.val .nili))] (R_ 10 14 [.m 0,.g (.mkFunc 243 [tm 5,tm 6,tm 7]),.c2 242,.e 12 0,.e 12 1,.M 8 13,.a 9] .ret)
theorem QJ:FnOk T_ 203 HI [.tmp 8,.tmp 9] 15:=fK_ Tryz.func203
def zt:VCode:=Q_ 2 [.n 0] (.seq (Q_ 3 [.m 0] (.block 0 (R_ 5 5 [.g (.bin .eql (tm 3) (cs [77,79])),.a 4] (c_ 4 (Q_ 2 [.n 0] .ret) (R_ 7 7 [.g (.bin .eql (tm 3) (cs [84,85])),.a 6] (c_ 6 (Q_ 2 [.n 1] .ret) (R_ 9 9 [.g (.bin .eql (tm 3) (cs [87,69])),.a 8] (c_ 8 (Q_ 2 [.n 2] .ret) (R_ 11 11 [.g (.bin .eql (tm 3) (cs [84,72])),.a 10] (c_ 10 (Q_ 2 [.n 3] .ret) (R_ 13 13 [.g (.bin .eql (tm 3) (cs [70,82])),.a 12] (c_ 12 (Q_ 2 [.n 4] .ret) (R_ 15 15 [.g (.bin .eql (tm 3) (cs [83,65])),.a 14] (c_ 14 (Q_ 2 [.n 5] .ret) (R_ 17 17 [.g (.bin .eql (tm 3) (cs [83,85])),.a 16] (c_ 16 (Q_ 2 [.n 6] .ret) .skip)))))))))))))))) (Q_ 2 [.n (-1)] .ret))
theorem Ix:FnOk T_ 204 zt [.tmp 2] 18:=fK_ Tryz.func204
def mz:VCode:=Q_ 4 [.K (cs [])] (.seq (.block 0 (.loop (.seq (C_ 5 6 [.m 0,.h,.i .gtr 0] .skip (.exit 0)) (.block 1 (.seq (C_ 8 14 [.m 1,.m 0,.m 0,.h,.i .sub 1,.y,.c2 244,.u] (.exit 0) .skip) (X_ 16 20 [.m 0,.m 0,.h,.i .sub 1,.g (.subS (tm 16) none (some (tm 19))),.a 0])))))) (R_ 21 21 [.m 0,.a 4] .ret))
theorem uu:FnOk T_ 208 mz [.tmp 4] 22:=fK_ Tryz.func208
def io:VCode:=Q_ 4 [.K (cs []),.K (cb false)] (.seq (C_ 6 8 [.m 0,.m 1,.c2 247,.u] (R_ 10 10 [.m 0,.a 4,.J 5 (cb false)] .ret) .skip) (R_ 11 17 [.m 0,.m 0,.h,.m 1,.h,.b .sub,.g (.subS (tm 11) none (some (tm 16))),.a 4,.J 5 (cb true)] .ret))
theorem o4:FnOk T_ 210 io [.tmp 4,.tmp 5] 18:=fK_ Tryz.func210
def nw:VCode:=Q_ 4 [.n 0] (.seq (G_ 6 [.m 0,.v,.n 0] [6,6] (.block 0 (.loop (Q_ 9 [.g (.bin .lss (tm 8) (tm 7))] (.seq (c_ 9 .skip (.exit 0)) (.seq (.block 1 (R_ 10 10 [.m 8,.a 5] (C_ 11 15 [.m 1,.m 0,.m 5,.x 1,.l,.b .eql] (R_ 17 17 [.m 5,.a 4] .ret) .skip))) (X_ 18 18 [.g (.bin .add (tm 8) (ci 1)),.a 8]))))))) (Q_ 4 [.n (-1)] .ret))
theorem rE:FnOk T_ 215 nw [.tmp 4] 19:=fK_ Tryz.func215
def pm:VCode:=Q_ 3 [.X 1,.n 0] (.seq (G_ 6 [.m 0,.v,.n 0] [6,6] (.block 0 (.loop (Q_ 9 [.g (.bin .lss (tm 8) (tm 7))] (.seq (c_ 9 .skip (.exit 0)) (.seq (.block 1 (R_ 10 10 [.m 8,.a 5] (.seq (.region (D_ [.W 2 3,.m 0,.m 5,.x 2,.L 2,.g (.eqA false [.i,.i] (tm 11) (tm 15))] 11) .calm [11,15]) (c_ 16 (R_ 17 17 [.m 5,.a 4] .ret) .skip)))) (X_ 18 18 [.g (.bin .add (tm 8) (ci 1)),.a 8]))))))) (Q_ 4 [.n (-1)] .ret))
theorem xA:FnOk T_ 218 pm [.tmp 4] 19:=fK_ Tryz.func218
def nL:VCode:=Q_ 4 [.K (cs [])] (.seq (.block 0 (.loop (.seq (C_ 5 6 [.m 0,.h,.i .gtr 0] .skip (.exit 0)) (.block 1 (.seq (C_ 8 11 [.m 1,.m 0,.g (.indexS (tm 9) (ci 0)),.g (.call 244 [tm 8,tm 10]),.u] (.exit 0) .skip) (X_ 13 14 [.m 0,.g (.subS (tm 13) (some (ci 1)) none),.a 0])))))) (R_ 15 15 [.m 0,.a 4] .ret))
theorem vt:FnOk T_ 237 nL [.tmp 4] 16:=fK_ Tryz.func237
def kL:VCode:=Q_ 4 [.K (.const .nils),.K (.const (.val .nili))] (Q_ 6 [.K (.const .nils)] (Q_ 7 [.n 0] (.seq (G_ 12 [.m 0,.g (.call 134 [tm 12,cs [44]]),.v,.n 0] [12,12] (.block 0 (.loop (Q_ 16 [.g (.bin .lss (tm 15) (tm 14))] (.seq (c_ 16 .skip (.exit 0)) (.seq (.block 1 (R_ 17 18 [.g (.indexAddr 1 (tm 13) (tm 15)),.l,.a 9] (.seq (C_ 19 20 [.m 6,.v,.E 12] (R_ 22 23 [.m 7,.g (.call 22 [ci 20,tm 22]),.J 4 (.const .nils),.a 5] .ret) .skip) (V_ 25 29 [.m 1,.m 9,.g (.callV (tm 25) [tm 26]),.a 24,.e 24 0,.e 24 1,.Y 10 z_9,.T 2 10 28,.a 11] (.seq (C_ 30 35 [.m 11,.E 0,.z,.m 6,.W 2 10,.c2 170,.A] (Y_ 11 [.n 19]) .skip) (.seq (C_ 37 37 [.m 11,.N 0] (R_ 39 41 [.m 11,.m 7,.c2 22,.J 4 (.const .nils),.a 5] .ret) .skip) (R_ 42 45 [.m 6,.W 2 10,.g (.buildSlice 2 1 z_9 [(0,2,tm 43)]),.g (.append 258 2 16 (tm 42) (tm 44)),.a 6] (X_ 46 50 [.m 7,.m 9,.h,.P 1,.b .add,.a 7])))))))) (X_ 51 51 [.g (.bin .add (tm 15) (ci 1)),.a 15]))))))) (R_ 52 52 [.m 6,.a 4,.J 5 (.const (.val .nili))] .ret))))
theorem rV:FnOk T_ 240 kL [.tmp 4,.tmp 5] 53:=fK_ Tryz.func240
def KL:VCode:=Q_ 2 [.Z z_9,.n 0] (R_ 8 10 [.m 0,.h,.i .sub 2,.a 4] (.seq (C_ 11 11 [.m 4,.i .lss 0] (R_ 13 13 [.D z_9,.s 2 2,.j 3 4] .ret) .skip) (R_ 14 17 [.m 0,.m 4,.g (.subS (tm 14) (some (tm 15)) none),.c1 204,.a 5] (.seq (C_ 18 18 [.m 5,.i .lss 0] (R_ 20 20 [.D z_9,.s 2 2,.j 3 4] .ret) .skip) (.seq (C_ 21 21 [.m 4,.E 0] (R_ 23 24 [.m 5,.g (.build z_9 [(1,1,tm 23)]),.s 2 2,.j 3 0] .ret) .skip) (V_ 26 31 [.m 0,.m 4,.g (.subS (tm 26) none (some (tm 27))),.g (.call 141 [tm 28,ci 2,ci 1,ci 53,cb true]),.a 25,.e 25 0,.e 25 1,.M 6 30,.a 7] (.seq (C_ 32 32 [.m 7,.N 0] (R_ 34 35 [.D z_9,.m 7,.T 2 2 34,.a 3] .ret) .skip) (R_ 36 38 [.m 6,.m 5,.g (.build z_9 [(0,1,tm 36),(1,1,tm 37)]),.s 2 2,.j 3 0] .ret))))))))
theorem Tn:FnOk T_ 241 KL [.cell 2 (some 2),.tmp 3] 39:=fK_ Tryz.func241
def nN:VCode:=Q_ 4 [.K (.const .nils),.K (.const (.val .nili))] (Q_ 6 [.K (.const .nils)] (Q_ 7 [.n 0] (.seq (G_ 12 [.m 0,.g (.call 134 [tm 12,cs [44]]),.v,.n 0] [12,12] (.block 0 (.loop (Q_ 16 [.g (.bin .lss (tm 15) (tm 14))] (.seq (c_ 16 .skip (.exit 0)) (.seq (.block 1 (R_ 17 18 [.g (.indexAddr 1 (tm 13) (tm 15)),.l,.a 9] (.seq (C_ 19 20 [.m 6,.v,.E 12] (R_ 22 23 [.m 7,.g (.call 22 [ci 20,tm 22]),.J 4 (.const .nils),.a 5] .ret) .skip) (V_ 25 29 [.m 1,.m 9,.g (.callV (tm 25) [tm 26]),.a 24,.e 24 0,.e 24 1,.M 10 28,.a 11] (.seq (C_ 30 35 [.m 11,.E 0,.z,.m 6,.m 10,.c2 162,.A] (Y_ 11 [.n 19]) .skip) (.seq (C_ 37 37 [.m 11,.N 0] (R_ 39 41 [.m 11,.m 7,.c2 22,.J 4 (.const .nils),.a 5] .ret) .skip) (R_ 42 45 [.m 6,.m 10,.g (.buildSlice 1 1 (z_ [.i]) [(0,1,tm 43)]),.g (.append 3 1 8 (tm 42) (tm 44)),.a 6] (X_ 46 50 [.m 7,.m 9,.h,.P 1,.b .add,.a 7])))))))) (X_ 51 51 [.g (.bin .add (tm 15) (ci 1)),.a 15]))))))) (R_ 52 52 [.m 6,.a 4,.J 5 (.const (.val .nili))] .ret))))
theorem vu:FnOk T_ 242 nN [.tmp 4,.tmp 5] 53:=fK_ Tryz.func242
def BA:VCode:=Q_ 5 [.n 0,.n 0] (R_ 7 13 [.m 0,.g (.load none (tm 1)),.g (.load none (tm 2)),.g (.load none (tm 3)),.g (.call 141 [tm 7,ci 5,tm 8,tm 9,tm 10]),.e 11 0,.e 11 1,.M 5 12,.a 6] .ret)
theorem KN:FnOk T_ 243 BA [.tmp 5,.tmp 6] 14:=fK_ Tryz.func243
def iq:VCode:=Q_ 4 [.K (cb false)] (R_ 5 20 [.m 0,.h,.m 1,.h,.b .geq,.z,.m 0,.m 0,.h,.m 1,.h,.b .sub,.g (.subS (tm 11) (some (tm 16)) none),.m 1,.b .eql,.A,.a 4] .ret)
theorem o5:FnOk T_ 247 iq [.tmp 4] 21:=fK_ Tryz.func247
def KO:VCode:=Q_ 4 [.K (cb false)] (R_ 5 7 [.m 0,.m 1,.c2 162,.a 4] .ret)
theorem To:FnOk T_ 278 KO [.tmp 4] 8:=fK_ Tryz.func278
end Go.Vs.Y
