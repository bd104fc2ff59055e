/- Plain mathematics of lists of numbers and weekdays: how they are read and printed. No conditions. -/
import Derived.Test.YtcjeehebikeghaaGreatDoorBK
set_option linter.unusedVariables false
set_option linter.unusedSimpArgs false
set_option maxRecDepth 100000
set_option maxHeartbeats 4000000
namespace Go.Vs.YtcjeehebikeghaaGreatDoor
open Go.Proofs Go.Vs.U8 Go.Vs.Pa Go.Vs.Nu Go.Lib
def dU(digits:Nat)(lo hi:Int)(signed:Bool)(s:Str):Int×Int:=
 let sg:Bool:=signed&&(decide (s[0]?=some 43)||decide (s[0]?=some 45))
 let b:=if sg then s.drop 1 else s
 if b=[]∨digits<b.length∨b.all dS=false then (0,4)
 else if (bJ 0 b:Int)<lo∨hi<(bJ 0 b:Int)then (0,8)
 else (if sg=true∧s[0]?=some 45 then -(bJ 0 b:Int)else (bJ 0 b:Int),0)
inductive GotE(α:Type) where
 |no (e:Int) (p:Nat)
 |ok (l:List α)
def lV{α:Type} [DecidableEq α](one:Str→α×Int):List Str→Nat→List α→GotE α
 |[],_,out=>.ok out
 |x::r,at',out=>if out.length=12 then .no 20 at' else
  if (one x).2≠0 then .no (one x).2 at'
  else if (one x).1∈out then .no 19 at'
  else lV one r (at'+x.length+1) (out++[(one x).1])
def dW{α:Type} [DecidableEq α](one:Str→α×Int)(s:Str):GotE α:=lV one (parts 44 s) 0 []
theorem aac{l:Str}(h:l.all dS=true){c:UInt8}(hc:dS c=false):c∉l:=fun hm=>by
 have:=List.all_eq_true.1 h c hm;rw[hc]at this;cases this
theorem NH(u:Nat):itoa (u:Int)=decDigits u:=by unfold itoa;rw[if_neg (by omega)];simp
theorem PE(u:Nat)(h:1≤u):itoa (-(u:Int))=45::decDigits u:=by unfold itoa;rw[if_pos (by omega)];simp
theorem V0{l:Str}(h:l.all dS=true):l[0]?≠some 43∧l[0]?≠some 45:=by
 constructor<;>intro e <;>
 ·have:=List.all_eq_true.1 h _ (List.mem_of_getElem? e);exact absurd this (by decide)
theorem V1{digits:Nat}{lo hi:Int}{n:Int}(h1:lo≤n.natAbs)(h2:(n.natAbs:Int)≤hi)(hd:(decDigits n.natAbs).length≤digits):dU digits lo hi true (itoa n)=(n,0):=by
 obtain⟨u,hu⟩:∃u,n.natAbs=u:=⟨_,rfl⟩;rw[hu]at h1 h2 hd;have hall:=Qx u;have hval:=Nz u;have hne:=UN u;by_cases hn:n<0
 ·have e:n = -(u:Int):=by omega
  rw[e,PE u (by omega)];simp only[dU];have s0:(45::decDigits u)[0]?=some 45:=rfl;rw[s0];simp only[decide_true,Bool.or_true,Bool.and_self,Bool.true_and,if_true,List.drop_succ_cons,List.drop_zero];rw[if_neg (by rw[hall];simp only[not_or];exact⟨hne,by omega,by simp⟩),hval,if_neg (by omega),if_pos ⟨trivial,trivial⟩]
 ·have e:n=(u:Int):=by omega
  rw[e,NH u];obtain⟨g1,g2⟩:=V0 hall;simp only[dU];simp only[g1,g2,decide_false,Bool.or_false,Bool.and_false,Bool.false_eq_true,if_false,false_and];rw[if_neg (by rw[hall];simp only[not_or];exact⟨hne,by omega,by simp⟩),hval,if_neg (by omega)]
def HI(s:Str):Int:=
 if s=[77,79]then 0 else if s=[84,85]then 1 else if s=[87,69]then 2 else if s=[84,72]then 3 else if s=[70,82]then 4 else if s=[83,65]then 5 else if s=[83,85]then 6 else -1
def abj:Str:=[77,79,84,85,87,69,84,72,70,82,83,65,83,85]
def Sm(d:Int):Str:=if d<0∨6<d then []else (abj.drop (2*d.toNat)).take 2
abbrev Dn:=Int×Int
def Af(s:Str):Dn×Int:=
 if s.length<2 then ((0,0),4)
 else if HI (s.drop (s.length-2))<0 then ((0,0),4)
 else if s.length=2 then ((0,HI (s.drop (s.length-2))),0)
 else if (dU 2 1 53 true (s.take (s.length-2))).2≠0 then ((0,0),(dU 2 1 53 true (s.take (s.length-2))).2)
 else (((dU 2 1 53 true (s.take (s.length-2))).1,HI (s.drop (s.length-2))),0)
def dayT(x:Dn):Str:=(if x.1=0 then []else itoa x.1)++Sm x.2
theorem NI{d:Int}(h0:0≤d)(h6:d≤6):d=0∨d=1∨d=2∨d=3∨d=4∨d=5∨d=6:=by omega
theorem XE{d:Int}(h0:0≤d)(h6:d≤6):HI (Sm d)=d∧(Sm d).length=2:=by
 rcases NI h0 h6 with rfl|rfl|rfl|rfl|rfl|rfl|rfl<;>decide
theorem Sn(s:Str):-1≤HI s∧HI s≤6:=by
 unfold HI
 repeat' split
 all_goals omega
def aad(l:List Int):Str:=join (l.map itoa) [44]
def aae(l:List Dn):Str:=join (l.map dayT) [44]
end Go.Vs.YtcjeehebikeghaaGreatDoor
namespace Go.Vs.YtcjeehebikeghaaGreatDoor
def vg:Nat:=65
open Go.Proofs
def cI:Nat:=113
def n5:Nat:=114
def ti:Nat:=115
def n6:Nat:=151
def iH:Nat:=205
def ko:Nat:=216
def ke:Nat:=223
def kf:Nat:=224
def fK:Nat:=264
def lW:Nat:=282
def vh:Nat:=285
def vl:Nat:=286
def lX:Nat:=287
def ec:Nat:=291
def dD:Nat:=293
def ed:Nat:=306
def kR:Nat:=313
def gY:Nat:=325
def fu:Nat:=328
def tj:Nat:=329
def gZ:Nat:=330
def nu:Nat:=331
def dE:Nat:=335
def jb:Nat:=338
def sa:VCode:=
 r_ [k_ 4 false] [] (.seq (r_ [m_ 6 0,v_ 7 6,m_ 8 1,v_ 9 8,b_ 10 .neq 7 9] [6,9] (c_ 10 (r_ [k_ 4 false] [] (.ret)) (.skip))) (.seq (r_ [j_ 5 0] [] (.block 0 (.loop (.seq (r_ [m_ 11 5,m_ 12 0,v_ 13 12,b_ 14 .lss 11 13] [11,13] (c_ 14 (.skip) (.exit 0))) (.seq (.block 1 (.seq (.region [m_ 17 0,m_ 18 5,o1 19 (.indexAddr 1 (tm 17) (tm 18)),l_ 20 19,m_ 21 1,m_ 22 5,o1 23 (.indexAddr 1 (tm 21) (tm 22)),l_ 24 23,b_ 25 .neq 20 24] (.calm) [17,24]) (c_ 25 (r_ [k_ 4 false] [] (.ret)) (.skip)))) (rt [m_ 15 5,i_ 16 .add 15 1,m_ 5 16] [15,16])))))) (r_ [k_ 4 true] [] (.ret))))
def sb:List VRes:=[.tmp 4]
theorem Ah:FnOk Tryz.prog cI sa sb 26:=
 ⟨⟨Tryz.f113,_,Tryz.func113,by decide,rfl,by kernel_rfl,by kernel_rfl,by kernel_rfl,rfl⟩⟩

def sd:VCode:=
 r_ [k_ 4 false] [] (.seq (r_ [m_ 6 0,v_ 7 6,m_ 8 1,v_ 9 8,b_ 10 .neq 7 9] [6,9] (c_ 10 (r_ [k_ 4 false] [] (.ret)) (.skip))) (.seq (r_ [j_ 5 0] [] (.block 0 (.loop (.seq (r_ [m_ 11 5,m_ 12 0,v_ 13 12,b_ 14 .lss 11 13] [11,13] (c_ 14 (.skip) (.exit 0))) (.seq (.block 1 (.seq (.region [m_ 17 0,m_ 18 5,o1 19 (.indexAddr 2 (tm 17) (tm 18)),s_ 20 2 19,m_ 21 1,m_ 22 5,o1 23 (.indexAddr 2 (tm 21) (tm 22)),s_ 24 2 23,o1 25 (.eqA true [.i,.i] (tm 20) (tm 24))] (.calm) [17,24]) (c_ 25 (r_ [k_ 4 false] [] (.ret)) (.skip)))) (rt [m_ 15 5,i_ 16 .add 15 1,m_ 5 16] [15,16])))))) (r_ [k_ 4 true] [] (.ret))))
def sf:List VRes:=[.tmp 4]
theorem Ai:FnOk Tryz.prog n5 sd sf 26:=
 ⟨⟨Tryz.f114,_,Tryz.func114,by decide,rfl,by kernel_rfl,by kernel_rfl,by kernel_rfl,rfl⟩⟩

def Aj:VCode:=
 r_ [o1 2 (.move (.const (.nils)))] [] (r_ [o1 3 (.move (.const (.nils)))] [] (.seq (r_ [j_ 4 0] [] (.block 0 (.loop (.seq (r_ [m_ 5 4,m_ 6 0,v_ 7 6,b_ 8 .lss 5 7] [5,7] (c_ 8 (.skip) (.exit 0))) (.seq (.block 1 (rt [m_ 11 3,m_ 12 0,m_ 13 4,o1 14 (.indexAddr 2 (tm 12) (tm 13)),s_ 15 2 14,o1 16 (.buildSlice 2 1 [.val (.int (.i64) 0),.val (.int (.i64) 0)] [(0,2,tm 15)]),o1 17 (.append 268 2 16 (tm 11) (tm 16)),m_ 3 17] [11,17])) (rt [m_ 9 4,i_ 10 .add 9 1,m_ 4 10] [9,10])))))) (r_ [m_ 18 3,m_ 2 18] [18,18] (.ret))))
def Ak:List VRes:=[.tmp 2]
theorem HJ:FnOk Tryz.prog ti Aj Ak 19:=
 ⟨⟨Tryz.f115,_,Tryz.func115,by decide,rfl,by kernel_rfl,by kernel_rfl,by kernel_rfl,rfl⟩⟩

def Fy:VCode:=
 r_ [j_ 8 0,o1 9 (.move (.const (.val (.nili))))] [] (r_ [m_ 13 0,m_ 14 1,m_ 15 2,m_ 16 3,o1 17 (.call ko [tm 13,ci 5,tm 14,tm 15,tm 16]),m_ 12 17,e_ 18 12 0,e_ 19 12 1,m_ 10 18,m_ 11 19] [12,19] (r_ [m_ 20 10,m_ 21 11,o1 22 (.call bH [tm 21,ci 0]),m_ 8 20,m_ 9 22] [20,22] (.ret)))
def Fz:List VRes:=[.tmp 8,.tmp 9]
theorem NJ:FnOk Tryz.prog n6 Fy Fz 23:=
 ⟨⟨Tryz.f151,_,Tryz.func151,by decide,rfl,by kernel_rfl,by kernel_rfl,by kernel_rfl,rfl⟩⟩

def pF:VCode:=
 r_ [o1 2 (.move (cs []))] [] (.seq (r_ [m_ 3 0,i_ 4 .lss 3 0,m_ 5 4,M_ 6 0 5 false,I_ 7 .gtr 6 6 5 false,q_ 8 5 7] [3,7] (c_ 8 (r_ [o1 2 (.move (cs []))] [] (.ret)) (.skip))) (r_ [m_ 9 0,o1 10 (.bin (.mul) (ci 2) (tm 9)),o1 11 (.subS (cs [77,79,84,85,87,69,84,72,70,82,83,65,83,85]) (some (tm 10)) none),o1 12 (.subS (tm 11) none (some (ci 2))),m_ 2 12] [9,12] (.ret)))
def pG:List VRes:=[.tmp 2]
theorem wV:FnOk Tryz.prog iH pF pG 13:=
 ⟨⟨Tryz.f205,_,Tryz.func205,by decide,rfl,by kernel_rfl,by kernel_rfl,by kernel_rfl,rfl⟩⟩

def xx:VCode:=
 r_ [j_ 10 0,j_ 11 0] [] (r_ [k_ 12 false] [] (.cut (.seq (r_ [m_ 15 4,m_ 16 15,M_ 17 0 16 true,o2 18 (.bin (.neq) (tm 17) (cs [])) 16 true,p_ 19 16 18,m_ 20 19,M_ 21 0 20 true,o2 22 (.indexS (tm 21) (ci 0)) 20 true,o2 23 (.call gL [cs [43,45],tm 22]) 20 true,I_ 24 .geq 23 0 20 true,p_ 25 20 24] [15,24] (c_ 25 (.region [m_ 26 0,o1 27 (.indexS (tm 26) (ci 0)),o1 28 (.bin (.eql) (tm 27) (cu 45)),m_ 29 0,o1 30 (.subS (tm 29) (some (ci 1)) none),m_ 12 28,m_ 0 30] (.calm) [26,30]) (.skip))) (.seq (r_ [m_ 31 0,t_ 32 31 [],m_ 33 32,M_ 34 0 33 false,o2 35 (.lenS (tm 34)) 33 false,M_ 36 1 33 false,B_ 37 .gtr 35 36 33 false,q_ 38 33 37,m_ 39 38,M_ 40 0 39 false,o2 41 (.call lW [tm 40,cs [48,49,50,51,52,53,54,55,56,57]]) 39 false,o2 42 (.bin (.neq) (tm 41) (cs [])) 39 false,q_ 43 39 42] [31,42] (c_ 43 (r_ [j_ 10 0,j_ 11 4] [] (.ret)) (.skip))) (r_ [j_ 13 0] [] (.cut (.seq (r_ [j_ 14 0] [] (.block 0 (.loop (.seq (r_ [m_ 44 14,m_ 45 0,o1 46 (.lenS (tm 45)),b_ 47 .lss 44 46] [44,46] (c_ 47 (.skip) (.exit 0))) (.seq (.block 1 (rt [m_ 50 13,o1 51 (.bin (.mul) (ci 10) (tm 50)),m_ 52 0,m_ 53 14,o1 54 (.indexS (tm 52) (tm 53)),o1 55 (.bin (.sub) (tm 54) (cu 48)),o1 56 (.convI (.i64) (tm 55)),b_ 57 .add 51 56,m_ 13 57] [50,57])) (rt [m_ 48 14,i_ 49 .add 48 1,m_ 14 49] [48,49])))))) (.seq (r_ [m_ 58 13,m_ 59 2,b_ 60 .lss 58 59,m_ 61 60,M_ 62 13 61 false,M_ 63 3 61 false,B_ 64 .gtr 62 63 61 false,q_ 65 61 64] [58,64] (c_ 65 (r_ [j_ 10 0,j_ 11 8] [] (.ret)) (.skip))) (.cut (.seq (r_ [m_ 66 12] [] (c_ 66 (rt [m_ 67 13,o1 68 (.un (.neg) (tm 67)),m_ 13 68] [67,68]) (.skip))) (r_ [m_ 69 13,m_ 10 69,j_ 11 0] [69,69] (.ret))))))))))))
def xy:List VRes:=[.tmp 10,.tmp 11]
theorem FA:FnOk Tryz.prog ko xx xy 70:=
 ⟨⟨Tryz.f216,_,Tryz.func216,by decide,rfl,by kernel_rfl,by kernel_rfl,by kernel_rfl,rfl⟩⟩

def ot:VCode:=
 r_ [o1 4 (.move (cs []))] [] (.seq (r_ [m_ 7 0,t_ 8 7 [],m_ 9 8,M_ 10 1 9 false,o2 11 (.bin (.eql) (tm 10) (cs [])) 9 false,q_ 12 9 11] [7,11] (c_ 12 (r_ [m_ 13 0,m_ 4 13] [13,13] (.ret)) (.skip))) (.seq (r_ [m_ 14 1,o1 15 (.lenS (tm 14)),i_ 16 .eql 15 1,m_ 17 16,M_ 18 1 17 true,o2 19 (.indexS (tm 18) (ci 0)) 17 true,o2 20 (.bin (.lss) (tm 19) (cu 128)) 17 true,p_ 21 17 20] [14,20] (c_ 21 (r_ [m_ 22 0,m_ 23 1,o1 24 (.indexS (tm 23) (ci 0)),o1 25 (.call 289 [tm 22,tm 24]),m_ 4 25] [22,25] (.ret)) (.skip))) (.seq (r_ [m_ 27 1,o1 28 (.call eV [tm 27]),m_ 26 28,e_ 29 26 0,e_ 30 26 1,o1 5 (.alloc Fp),o3 (.store 256 (tm 5) (tm 29)),m_ 6 30] [26,30] (r_ [m_ 31 6] [] (c_ 31 (r_ [m_ 32 0,o1 33 (.call ec [tm 32,tm 5]),m_ 4 33] [32,33] (.ret)) (.skip)))) (r_ [m_ 34 0,m_ 35 1,o1 36 (.call 292 [tm 34,tm 35]),m_ 4 36] [34,36] (.ret)))))
def ou:List VRes:=[.tmp 4]
theorem vm:FnOk Tryz.prog ke ot ou 37:=
 ⟨⟨Tryz.f223,_,Tryz.func223,by decide,rfl,by kernel_rfl,by kernel_rfl,by kernel_rfl,rfl⟩⟩

def ov:VCode:=
 r_ [o1 4 (.move (cs [])),k_ 5 false] [] (r_ [m_ 6 0,m_ 7 1,o1 8 (.call dD [tm 6,tm 7]),e_ 9 8 0,e_ 10 8 1,m_ 4 9,m_ 5 10] [6,10] (.ret))
def ow:List VRes:=[.tmp 4,.tmp 5]
theorem vn:FnOk Tryz.prog kf ov ow 11:=
 ⟨⟨Tryz.f224,_,Tryz.func224,by decide,rfl,by kernel_rfl,by kernel_rfl,by kernel_rfl,rfl⟩⟩

def mz:VCode:=
 r_ [k_ 4 false] [] (r_ [m_ 5 0,m_ 6 1,o1 7 (.call kR [tm 5,tm 6]),i_ 8 .geq 7 0,m_ 4 8] [5,8] (.ret))
def mA:List VRes:=[.tmp 4]
theorem tn:FnOk Tryz.prog fK mz mA 9:=
 ⟨⟨Tryz.f264,_,Tryz.func264,by decide,rfl,by kernel_rfl,by kernel_rfl,by kernel_rfl,rfl⟩⟩

def vp:VCode:=
 r_ [o1 4 (.move (cs []))] [] (.seq (r_ [m_ 7 0,t_ 8 7 [],m_ 9 8,M_ 10 1 9 false,o2 11 (.bin (.eql) (tm 10) (cs [])) 9 false,q_ 12 9 11] [7,11] (c_ 12 (r_ [m_ 13 0,m_ 4 13] [13,13] (.ret)) (.skip))) (.seq (r_ [m_ 14 1,o1 15 (.lenS (tm 14)),i_ 16 .eql 15 1,m_ 17 16,M_ 18 1 17 true,o2 19 (.indexS (tm 18) (ci 0)) 17 true,o2 20 (.bin (.lss) (tm 19) (cu 128)) 17 true,p_ 21 17 20] [14,20] (c_ 21 (.seq (.region [m_ 22 0,m_ 23 1,o1 24 (.indexS (tm 23) (ci 0)),o1 25 (.call 289 [tm 22,tm 24]),m_ 26 1,o1 27 (.indexS (tm 26) (ci 0)),o1 28 (.call 324 [tm 25,tm 27]),m_ 4 28] (.drawn [(3,4),(3,5)] (zL [(3,[(0,2),(4,5)]),(6,[(0,5)])])) [22,28]) (.ret)) (.skip))) (.seq (r_ [m_ 30 1,o1 31 (.call eV [tm 30]),m_ 29 31,e_ 32 29 0,e_ 33 29 1,o1 5 (.alloc Fp),o3 (.store 256 (tm 5) (tm 32)),m_ 6 33] [29,33] (r_ [m_ 34 6] [] (c_ 34 (r_ [m_ 35 0,o1 36 (.call ec [tm 35,tm 5]),o1 37 (.call gY [tm 36,tm 5]),m_ 4 37] [35,37] (.ret)) (.skip)))) (r_ [m_ 38 0,m_ 39 1,o1 40 (.call 292 [tm 38,tm 39]),m_ 41 1,o1 42 (.call 326 [tm 40,tm 41]),m_ 4 42] [38,42] (.ret)))))
def vq:List VRes:=[.tmp 4]
theorem Dw:FnOk Tryz.prog lW vp vq 43:=
 ⟨⟨Tryz.f282,_,Tryz.func282,by decide,rfl,by kernel_rfl,by kernel_rfl,by kernel_rfl,rfl⟩⟩

def CS:VCode:=
 r_ [o1 2 (.move (.const (.nils))),o1 3 (.move (.const (.val (.nili))))] [] (r_ [m_ 4 0,o1 5 (.call fu [tm 4,.func tj]),e_ 6 5 0,e_ 7 5 1,m_ 2 6,m_ 3 7] [4,7] (.ret))
def CT:List VRes:=[.tmp 2,.tmp 3]
theorem L4:FnOk Tryz.prog vh CS CT 8:=
 ⟨⟨Tryz.f285,_,Tryz.func285,by decide,rfl,by kernel_rfl,by kernel_rfl,by kernel_rfl,rfl⟩⟩

def CU:VCode:=
 r_ [o1 5 (.box (tm 1)),o1 6 (.box (tm 2)),o1 7 (.box (tm 3)),o1 8 (.move (.const (.nils))),o1 9 (.move (.const (.val (.nili))))] [] (r_ [m_ 10 0,o1 11 (.mkFunc nu [tm 5,tm 6,tm 7]),o1 12 (.call gZ [tm 10,tm 11]),e_ 13 12 0,e_ 14 12 1,m_ 8 13,m_ 9 14] [10,14] (.ret))
def CV:List VRes:=[.tmp 8,.tmp 9]
theorem L5:FnOk Tryz.prog vl CU CV 15:=
 ⟨⟨Tryz.f286,_,Tryz.func286,by decide,rfl,by kernel_rfl,by kernel_rfl,by kernel_rfl,rfl⟩⟩

def vr:VCode:=
 r_ [j_ 2 0] [] (.seq (r_ [m_ 3 0] [] (.block 0 (r_ [t_ 5 3 [77,79],m_ 4 5] [5,5] (c_ 4 (r_ [j_ 2 0] [] (.ret)) (r_ [t_ 7 3 [84,85],m_ 6 7] [7,7] (c_ 6 (r_ [j_ 2 1] [] (.ret)) (r_ [t_ 9 3 [87,69],m_ 8 9] [9,9] (c_ 8 (r_ [j_ 2 2] [] (.ret)) (r_ [t_ 11 3 [84,72],m_ 10 11] [11,11] (c_ 10 (r_ [j_ 2 3] [] (.ret)) (r_ [t_ 13 3 [70,82],m_ 12 13] [13,13] (c_ 12 (r_ [j_ 2 4] [] (.ret)) (r_ [t_ 15 3 [83,65],m_ 14 15] [15,15] (c_ 14 (r_ [j_ 2 5] [] (.ret)) (r_ [t_ 17 3 [83,85],m_ 16 17] [17,17] (c_ 16 (r_ [j_ 2 6] [] (.ret)) (.skip))))))))))))))))) (r_ [j_ 2 (-1)] [] (.ret)))
def vt:List VRes:=[.tmp 2]
theorem Dx:FnOk Tryz.prog lX vr vt 18:=
 ⟨⟨Tryz.f287,_,Tryz.func287,by decide,rfl,by kernel_rfl,by kernel_rfl,by kernel_rfl,rfl⟩⟩

def kq:VCode:=
 r_ [o1 4 (.move (cs []))] [] (.seq (.block 0 (.loop (.seq (r_ [m_ 5 0,o1 6 (.lenS (tm 5)),i_ 7 .gtr 6 0] [5,6] (c_ 7 (.skip) (.exit 0))) (.block 1 (.seq (r_ [m_ 8 1,m_ 9 0,m_ 10 0,o1 11 (.lenS (tm 10)),i_ 12 .sub 11 1,o1 13 (.indexS (tm 9) (tm 12)),o1 14 (.call dt [tm 8,tm 13]),u_ 15 14] [8,14] (c_ 15 (.exit 0) (.skip))) (rt [m_ 16 0,m_ 17 0,o1 18 (.lenS (tm 17)),i_ 19 .sub 18 1,o1 20 (.subS (tm 16) none (some (tm 19))),m_ 0 20] [16,20])))))) (r_ [m_ 21 0,m_ 4 21] [21,21] (.ret)))
def kt:List VRes:=[.tmp 4]
theorem qn:FnOk Tryz.prog ec kq kt 22:=
 ⟨⟨Tryz.f291,_,Tryz.func291,by decide,rfl,by kernel_rfl,by kernel_rfl,by kernel_rfl,rfl⟩⟩

def gi:VCode:=
 r_ [o1 4 (.move (cs [])),k_ 5 false] [] (.seq (r_ [m_ 6 0,m_ 7 1,o1 8 (.call dE [tm 6,tm 7]),u_ 9 8] [6,8] (c_ 9 (r_ [m_ 10 0,m_ 4 10,k_ 5 false] [10,10] (.ret)) (.skip))) (r_ [m_ 11 0,m_ 12 0,o1 13 (.lenS (tm 12)),m_ 14 1,o1 15 (.lenS (tm 14)),b_ 16 .sub 13 15,o1 17 (.subS (tm 11) none (some (tm 16))),m_ 4 17,k_ 5 true] [11,17] (.ret)))
def gj:List VRes:=[.tmp 4,.tmp 5]
theorem ly:FnOk Tryz.prog dD gi gj 18:=
 ⟨⟨Tryz.f293,_,Tryz.func293,by decide,rfl,by kernel_rfl,by kernel_rfl,by kernel_rfl,rfl⟩⟩

def ku:VCode:=
 r_ [o1 3 (.box (tm 1)),k_ 4 false] [] (r_ [m_ 5 0,s_ 6 2 3,o1 7 (.call jb [tm 5,tm 6]),i_ 8 .geq 7 0,m_ 4 8] [5,8] (.ret))
def kv:List VRes:=[.tmp 4]
theorem qo:FnOk Tryz.prog ed ku kv 9:=
 ⟨⟨Tryz.f306,_,Tryz.func306,by decide,rfl,by kernel_rfl,by kernel_rfl,by kernel_rfl,rfl⟩⟩

def pH:VCode:=
 r_ [j_ 4 0] [] (.seq (r_ [m_ 6 0,v_ 7 6,j_ 8 0] [6,6] (.block 0 (.loop (r_ [b_ 9 .lss 8 7] [] (.seq (c_ 9 (.skip) (.exit 0)) (.seq (.block 1 (r_ [m_ 10 8,m_ 5 10] [10,10] (r_ [m_ 11 1,m_ 12 0,m_ 13 5,o1 14 (.indexAddr 1 (tm 12) (tm 13)),l_ 15 14,b_ 16 .eql 11 15] [11,15] (c_ 16 (r_ [m_ 17 5,m_ 4 17] [17,17] (.ret)) (.skip))))) (rt [i_ 18 .add 8 1,m_ 8 18] [18,18]))))))) (r_ [j_ 4 (-1)] [] (.ret)))
def pI:List VRes:=[.tmp 4]
theorem wW:FnOk Tryz.prog kR pH pI 19:=
 ⟨⟨Tryz.f313,_,Tryz.func313,by decide,rfl,by kernel_rfl,by kernel_rfl,by kernel_rfl,rfl⟩⟩

def lj:VCode:=
 r_ [o1 4 (.move (cs []))] [] (.seq (.block 0 (.loop (.seq (r_ [m_ 5 0,o1 6 (.lenS (tm 5)),i_ 7 .gtr 6 0] [5,6] (c_ 7 (.skip) (.exit 0))) (.block 1 (.seq (r_ [m_ 8 1,m_ 9 0,o1 10 (.indexS (tm 9) (ci 0)),o1 11 (.call dt [tm 8,tm 10]),u_ 12 11] [8,11] (c_ 12 (.exit 0) (.skip))) (rt [m_ 13 0,o1 14 (.subS (tm 13) (some (ci 1)) none),m_ 0 14] [13,14])))))) (r_ [m_ 15 0,m_ 4 15] [15,15] (.ret)))
def lk:List VRes:=[.tmp 4]
theorem ri:FnOk Tryz.prog gY lj lk 16:=
 ⟨⟨Tryz.f325,_,Tryz.func325,by decide,rfl,by kernel_rfl,by kernel_rfl,by kernel_rfl,rfl⟩⟩

def js:VCode:=
 r_ [o1 4 (.move (.const (.nils))),o1 5 (.move (.const (.val (.nili))))] [] (r_ [o1 6 (.move (.const (.nils)))] [] (r_ [j_ 7 0] [] (.seq (r_ [m_ 12 0,o1 13 (.call eE [tm 12,cs [44]]),v_ 14 13,j_ 15 0] [12,12] (.block 0 (.loop (r_ [b_ 16 .lss 15 14] [] (.seq (c_ 16 (.skip) (.exit 0)) (.seq (.block 1 (r_ [o1 17 (.indexAddr 1 (tm 13) (tm 15)),l_ 18 17,m_ 9 18] [17,18] (.seq (r_ [m_ 19 6,v_ 20 19,i_ 21 .eql 20 12] [19,20] (c_ 21 (r_ [m_ 22 7,o1 23 (.call bH [ci 20,tm 22]),o1 4 (.move (.const (.nils))),m_ 5 23] [22,23] (.ret)) (.skip))) (r_ [m_ 25 1,m_ 26 9,o1 27 (.callV (tm 25) [tm 26]),m_ 24 27,e_ 28 24 0,e_ 29 24 1,o1 10 (.alloc [.val (.int (.i64) 0),.val (.int (.i64) 0)]),o3 (.store 2 (tm 10) (tm 28)),m_ 11 29] [24,29] (.seq (r_ [m_ 30 11,i_ 31 .eql 30 0,m_ 32 31,M_ 33 6 32 true,o2 34 (.load (some 2) (tm 10)) 32 true,o2 35 (.call ed [tm 33,tm 34]) 32 true,p_ 36 32 35] [30,35] (c_ 36 (rt [j_ 11 19] []) (.skip))) (.seq (r_ [m_ 37 11,i_ 38 .neq 37 0] [37,37] (c_ 38 (r_ [m_ 39 11,m_ 40 7,o1 41 (.call bH [tm 39,tm 40]),o1 4 (.move (.const (.nils))),m_ 5 41] [39,41] (.ret)) (.skip))) (r_ [m_ 42 6,s_ 43 2 10,o1 44 (.buildSlice 2 1 [.val (.int (.i64) 0),.val (.int (.i64) 0)] [(0,2,tm 43)]),o1 45 (.append 269 2 16 (tm 42) (tm 44)),m_ 6 45] [42,45] (rt [m_ 46 7,m_ 47 9,o1 48 (.lenS (tm 47)),i_ 49 .add 48 1,b_ 50 .add 46 49,m_ 7 50] [46,50])))))))) (rt [i_ 51 .add 15 1,m_ 15 51] [51,51]))))))) (r_ [m_ 52 6,m_ 4 52,o1 5 (.move (.const (.val (.nili))))] [52,52] (.ret)))))
def jt:List VRes:=[.tmp 4,.tmp 5]
theorem oN:FnOk Tryz.prog fu js jt 53:=
 ⟨⟨Tryz.f328,_,Tryz.func328,by decide,rfl,by kernel_rfl,by kernel_rfl,by kernel_rfl,rfl⟩⟩

def FB:VCode:=
 r_ [o1 2 (.alloc [.val (.int (.i64) 0),.val (.int (.i64) 0)]),j_ 3 0] [] (r_ [m_ 8 0,o1 9 (.lenS (tm 8)),i_ 10 .sub 9 2,m_ 4 10] [8,10] (.seq (r_ [m_ 11 4,i_ 12 .lss 11 0] [11,11] (c_ 12 (r_ [o1 13 (.build [.val (.int (.i64) 0),.val (.int (.i64) 0)] []),o3 (.store 2 (tm 2) (tm 13)),j_ 3 4] [13,13] (.ret)) (.skip))) (r_ [m_ 14 0,m_ 15 4,o1 16 (.subS (tm 14) (some (tm 15)) none),o1 17 (.call lX [tm 16]),m_ 5 17] [14,17] (.seq (r_ [m_ 18 5,i_ 19 .lss 18 0] [18,18] (c_ 19 (r_ [o1 20 (.build [.val (.int (.i64) 0),.val (.int (.i64) 0)] []),o3 (.store 2 (tm 2) (tm 20)),j_ 3 4] [20,20] (.ret)) (.skip))) (.seq (r_ [m_ 21 4,i_ 22 .eql 21 0] [21,21] (c_ 22 (r_ [m_ 23 5,o1 24 (.build [.val (.int (.i64) 0),.val (.int (.i64) 0)] [(1,1,tm 23)]),o3 (.store 2 (tm 2) (tm 24)),j_ 3 0] [23,24] (.ret)) (.skip))) (r_ [m_ 26 0,m_ 27 4,o1 28 (.subS (tm 26) none (some (tm 27))),o1 29 (.call ko [tm 28,ci 2,ci 1,ci 53,cb true]),m_ 25 29,e_ 30 25 0,e_ 31 25 1,m_ 6 30,m_ 7 31] [25,31] (.seq (r_ [m_ 32 7,i_ 33 .neq 32 0] [32,32] (c_ 33 (r_ [o1 34 (.build [.val (.int (.i64) 0),.val (.int (.i64) 0)] []),m_ 35 7,o3 (.store 2 (tm 2) (tm 34)),m_ 3 35] [34,35] (.ret)) (.skip))) (r_ [m_ 36 6,m_ 37 5,o1 38 (.build [.val (.int (.i64) 0),.val (.int (.i64) 0)] [(0,1,tm 36),(1,1,tm 37)]),o3 (.store 2 (tm 2) (tm 38)),j_ 3 0] [36,38] (.ret)))))))))
def FC:List VRes:=[.cell 2 (some 2),.tmp 3]
theorem NK:FnOk Tryz.prog tj FB FC 39:=
 ⟨⟨Tryz.f329,_,Tryz.func329,by decide,rfl,by kernel_rfl,by kernel_rfl,by kernel_rfl,rfl⟩⟩

def ll:VCode:=
 r_ [o1 4 (.move (.const (.nils))),o1 5 (.move (.const (.val (.nili))))] [] (r_ [o1 6 (.move (.const (.nils)))] [] (r_ [j_ 7 0] [] (.seq (r_ [m_ 12 0,o1 13 (.call eE [tm 12,cs [44]]),v_ 14 13,j_ 15 0] [12,12] (.block 0 (.loop (r_ [b_ 16 .lss 15 14] [] (.seq (c_ 16 (.skip) (.exit 0)) (.seq (.block 1 (r_ [o1 17 (.indexAddr 1 (tm 13) (tm 15)),l_ 18 17,m_ 9 18] [17,18] (.seq (r_ [m_ 19 6,v_ 20 19,i_ 21 .eql 20 12] [19,20] (c_ 21 (r_ [m_ 22 7,o1 23 (.call bH [ci 20,tm 22]),o1 4 (.move (.const (.nils))),m_ 5 23] [22,23] (.ret)) (.skip))) (r_ [m_ 25 1,m_ 26 9,o1 27 (.callV (tm 25) [tm 26]),m_ 24 27,e_ 28 24 0,e_ 29 24 1,m_ 10 28,m_ 11 29] [24,29] (.seq (r_ [m_ 30 11,i_ 31 .eql 30 0,m_ 32 31,M_ 33 6 32 true,M_ 34 10 32 true,o2 35 (.call fK [tm 33,tm 34]) 32 true,p_ 36 32 35] [30,35] (c_ 36 (rt [j_ 11 19] []) (.skip))) (.seq (r_ [m_ 37 11,i_ 38 .neq 37 0] [37,37] (c_ 38 (r_ [m_ 39 11,m_ 40 7,o1 41 (.call bH [tm 39,tm 40]),o1 4 (.move (.const (.nils))),m_ 5 41] [39,41] (.ret)) (.skip))) (r_ [m_ 42 6,m_ 43 10,o1 44 (.buildSlice 1 1 [.val (.int (.i64) 0)] [(0,1,tm 43)]),o1 45 (.append 3 1 8 (tm 42) (tm 44)),m_ 6 45] [42,45] (rt [m_ 46 7,m_ 47 9,o1 48 (.lenS (tm 47)),i_ 49 .add 48 1,b_ 50 .add 46 49,m_ 7 50] [46,50])))))))) (rt [i_ 51 .add 15 1,m_ 15 51] [51,51]))))))) (r_ [m_ 52 6,m_ 4 52,o1 5 (.move (.const (.val (.nili))))] [52,52] (.ret)))))
def lq:List VRes:=[.tmp 4,.tmp 5]
theorem rj:FnOk Tryz.prog gZ ll lq 53:=
 ⟨⟨Tryz.f330,_,Tryz.func330,by decide,rfl,by kernel_rfl,by kernel_rfl,by kernel_rfl,rfl⟩⟩

def xz:VCode:=
 r_ [j_ 5 0,j_ 6 0] [] (r_ [m_ 7 0,l_ 8 1,l_ 9 2,l_ 10 3,o1 11 (.call ko [tm 7,ci 5,tm 8,tm 9,tm 10]),e_ 12 11 0,e_ 13 11 1,m_ 5 12,m_ 6 13] [7,13] (.ret))
def xA:List VRes:=[.tmp 5,.tmp 6]
theorem FD:FnOk Tryz.prog nu xz xA 14:=
 ⟨⟨Tryz.f331,_,Tryz.func331,by decide,rfl,by kernel_rfl,by kernel_rfl,by kernel_rfl,rfl⟩⟩

def gk:VCode:=
 r_ [k_ 4 false] [] (r_ [m_ 5 0,o1 6 (.lenS (tm 5)),m_ 7 1,o1 8 (.lenS (tm 7)),b_ 9 .geq 6 8,m_ 10 9,M_ 11 0 10 true,M_ 12 0 10 true,o2 13 (.lenS (tm 12)) 10 true,M_ 14 1 10 true,o2 15 (.lenS (tm 14)) 10 true,B_ 16 .sub 13 15 10 true,o2 17 (.subS (tm 11) (some (tm 16)) none) 10 true,M_ 18 1 10 true,B_ 19 .eql 17 18 10 true,p_ 20 10 19,m_ 4 20] [5,20] (.ret))
def gn:List VRes:=[.tmp 4]
theorem lz:FnOk Tryz.prog dE gk gn 21:=
 ⟨⟨Tryz.f335,_,Tryz.func335,by decide,rfl,by kernel_rfl,by kernel_rfl,by kernel_rfl,rfl⟩⟩

def mB:VCode:=
 r_ [o1 3 (.box (tm 1)),j_ 4 0] [] (.seq (r_ [m_ 6 0,v_ 7 6,j_ 8 0] [6,6] (.block 0 (.loop (r_ [b_ 9 .lss 8 7] [] (.seq (c_ 9 (.skip) (.exit 0)) (.seq (.block 1 (r_ [m_ 10 8,m_ 5 10] [10,10] (.seq (.region [s_ 11 2 3,m_ 12 0,m_ 13 5,o1 14 (.indexAddr 2 (tm 12) (tm 13)),s_ 15 2 14,o1 16 (.eqA false [.i,.i] (tm 11) (tm 15))] (.calm) [11,15]) (c_ 16 (r_ [m_ 17 5,m_ 4 17] [17,17] (.ret)) (.skip))))) (rt [i_ 18 .add 8 1,m_ 8 18] [18,18]))))))) (r_ [j_ 4 (-1)] [] (.ret)))
def mC:List VRes:=[.tmp 4]
theorem tp:FnOk Tryz.prog jb mB mC 19:=
 ⟨⟨Tryz.f338,_,Tryz.func338,by decide,rfl,by kernel_rfl,by kernel_rfl,by kernel_rfl,rfl⟩⟩
end Go.Vs.YtcjeehebikeghaaGreatDoor
