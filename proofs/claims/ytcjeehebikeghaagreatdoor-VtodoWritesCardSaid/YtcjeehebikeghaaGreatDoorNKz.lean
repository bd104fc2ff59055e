/- A part of a proof. No conditions. -/
import Derived.Test.YtcjeehebikeghaaGreatDoorBWz
import Derived.Lib.LaidTab
set_option linter.unusedVariables false
set_option linter.unusedSimpArgs false
set_option maxRecDepth 100000
set_option maxHeartbeats 8000000
namespace Go.Vs.YtcjeehebikeghaaGreatDoor
open Go.Proofs Go.Vs.U8 Go.Vs.Pa Go.Vs.Nu Go.Lib
theorem Qv(l:List Str)(x:Str):ts (l++[x])=ts l++[[.str x]]:=by simp[ts]
theorem Qw(s:Str)(A:s.length<1000000):Fn G Tryz.prog 296 [.str s] (.slice (ts (parts 44 s))):=by
 refine ae hm Is (by simp) ?_;obtain⟨R,p⟩:∃R,parts 44 s=R:=⟨_,rfl⟩;rw[p];simp[zj];refine be hm [] (fun x:Nat×Nat×List Str=>[(5,.val (.int .i64 x.2.1)),(4,.val (.int .i64 x.1)),(3,.own 3 x.2.2.length)]) (fun x=>[(3,.arr x.2.2.length 1 (ts x.2.2))]) (fun x=>x.1<=x.2.1/\x.2.1<=s.length/\44∉(s.drop x.1).take (x.2.1-x.1)/\x.2.2++parts 44 (s.drop x.1)=R/\x.2.2.length<=x.1) (fun x=>s.length-x.2.1) (0,0,[]) ⟨by simp,by simp,by simp,by simpa using p,by simp⟩ ?_ ?_
 ·simp[ts];exact cH.trans (ct (k:=3) 3 1 (by simp) (by simp[ap,ac])) (ag rfl rfl (by simp[St.adopt,aI,ap,ac,put,cS,SV.erase]) (by simp[St.adopt,bD,ac,put,ck,Ob.erase]) (by simp[St.adopt,bB]))
 rintro⟨f,i,b⟩ ⟨l,q,d,a,u⟩;simp only at l q d a u;simp;by_cases h:i<s.length
 ·obtain⟨c,j⟩:∃c,s[i]=c:=⟨_,rfl⟩;by_cases m:c=44
  ·subst m
   have w:(s.drop f)[i-f]?=some 44:=by
    rw[List.getElem?_drop,show f+(i-f)=i by omega,List.getElem?_eq_getElem h,j]
   have v:=Ck w d;rw[List.drop_drop,show f+(i-f+1)=i+1 by omega]at v;rw[v]at a;have g:List.drop f (List.take i s)=(s.drop f).take (i-f):=List.drop_take;simp(disch:=omega)[wl,j,aQ,g];refine⟨⟨l,q⟩,by omega,?_⟩;refine ai (i+1,i+1,b++[(s.drop f).take (i-f)]) ⟨by simp,by simp;omega,by simp,by simpa using a,by simp;omega⟩ (by simp;omega) ?_;simp[Qv];exact bp
  ·have y:¬c.toNat=44:=fun e=>m (UInt8.toNat_inj.1 e)
   have n:44∉(s.drop f).take (i+1-f):=by
    rw[show i+1-f=(i-f)+1 by omega,List.take_succ_eq_append_getElem (by rw[List.length_drop];omega)];simp only[List.mem_append,List.mem_singleton,not_or];refine⟨d,fun e=>m ?_⟩;rw[List.getElem_drop]at e;simp only[show f+(i-f)=i by omega]at e;rw[<-j,<-e]
   simp(disch:=omega)[wl,j,y];refine ai (f,i+1,b) ⟨by simp;omega,by simp;omega,n,a,u⟩ (by simp;omega) ?_;simp;exact bp
 ·obtain rfl:i=s.length:=by omega
  have z:44∉s.drop f:=by
   have:(s.drop f).take (s.length-f)=s.drop f:=Cw f;rw[this]at d;exact d
  rw[uA z]at a;have o:=Cw (s:=s) f;simp(disch:=omega)[wl,o,aQ];refine⟨l,by omega,?_⟩;rw[<-a];simp[Qv]
def kk:GotE Int->IV
 |.no e p=>.tuple [.slice [],.int .i64 e,.int .i64 p]
 |.ok l=>.tuple [.slice (is l),.int .i64 0,.int .i64 0]
def Iz:GotE Dn->IV
 |.no e p=>.tuple [.slice [],.int .i64 e,.int .i64 p]
 |.ok l=>.tuple [.slice (sX l),.int .i64 0,.int .i64 0]
theorem nV(m o:Int)(q:Bool)(s:Str)(H:s.length<1000000):Fn G Tryz.prog 232 [.str s,.int .i64 m,.int .i64 o,.bool q] (kk (bK (cF 5 m o q) s)):=by
 obtain⟨R,g⟩:∃R,bK (cF 5 m o q) s=R:=⟨_,rfl⟩;rw[g];unfold bK at g;obtain⟨L,z⟩:∃L,parts 44 s=L:=⟨_,rfl⟩;have A:∀x∈L,x.length<=s.length:=fun x y=>gg (z▸y)
 have I:L.length<=1000001:=by
  have:=kX 44 s;have D:s.count 44<=s.length:=List.count_le_length;rw[z]at this;omega
 have E:=Qw s H;rw[z]at E g;refine ae hm Ky (by simp) ?_;simp[Cq];refine aa E ?_;simp[aQ];refine Iy hm [] [11] (fun x:Nat×List Int=>[(14,.val (.int .i64 x.2.length)),(13,.val (.int .i64 x.1)),(11,.own 11 x.2.length)]) (fun x=>[(11,.arr x.2.length 1 (is x.2))]) (fun x=>x.2.length<=L.length/\x.2.length<=12/\x.1<=1000001*x.2.length/\em (cF 5 m o q) (L.drop x.2.length) x.1 x.2=R) (fun x=>L.length-x.2.length) (0,[]) ⟨by simp,by simp,by simp,by simpa using g⟩ ?_ ?_
 ·simp[is];exact cH.trans (ct (k:=11) 11 1 (by simp) (by simp[ap,ac])) (ag rfl rfl (by simp[St.adopt,aI,ap,ac,put,cS,SV.erase]) (by simp[St.adopt,bD,ac,put,ck,Ob.erase]) (by simp[St.adopt,bB]))
 rintro⟨a,d⟩ ⟨J,D,K,b⟩;simp only at J D K b;simp[is_len,aQ];by_cases h:d.length<L.length
 ·obtain⟨x,y⟩:∃x,L[d.length]=x:=⟨_,rfl⟩;have F:=kM h y;have M:=A x (y▸List.getElem_mem h);rw[List.drop_eq_getElem_cons h,y,em]at b;by_cases j:d.length=12
  ·rw[if_pos j]at b;subst b;simp(disch:=omega)[wl,is_len,aQ,j];simp[kk]
  ·rw[if_neg j]at b;obtain⟨⟨n,e⟩,N⟩:∃p,cF 5 m o q x=p:=⟨_,rfl⟩;have B:=yf m o q x (by omega);rw[N]at B b;simp only[ln]at B;simp only at b;simp(disch:=omega)[wl,F,is_len,aQ,j];refine aa B ?_;by_cases C:e=0
   ·subst C;rw[if_neg (by simp)]at b;have O:=TT d n (by omega);simp(disch:=omega)[wl,is_len];refine aa O ?_;by_cases l:n∈d
    ·rw[if_pos l]at b;subst b;simp(disch:=omega)[wl,l];simp[kk]
    ·rw[if_neg l]at b;simp(disch:=omega)[wl,l,is_len,F,aQ];refine⟨by omega,?_⟩;refine ai (a+x.length+1,d++[n]) ⟨by simp;omega,by simp;omega,by simp;omega,by simpa using b⟩ (by simp;omega) ?_;simp[NX];exact ag rfl rfl (by simp[aI,ap,ac];omega) (by simp[bD,ac]) (by simp[bB])
   ·rw[if_pos C]at b;subst b;simp(disch:=omega)[wl,is_len,C];simp[kk]
 ·have e:L.drop d.length=[]:=List.drop_eq_nil_of_le (by omega);rw[e,em]at b;subst b;have e2:d.length=L.length:=by omega
  simp(disch:=omega)[wl,is_len,aQ];simp[kk]
theorem aeV(e f:Int)(h:Str):cF 2 e f true h=if (cF 5 e f true h).2=4\/2<(oJ true h).length then (0,4)else cF 5 e f true h:=by
 rw[GZ,GZ];obtain⟨b,g⟩:∃b,oJ true h=b:=⟨_,rfl⟩;rw[g];by_cases a:b=[]\/5<b.length\/b.all d7=false
 ·have c:b=[]\/2<b.length\/b.all d7=false:=a.imp id (Or.imp (fun h=>by omega) id);rw[if_pos c,if_pos a,if_pos (.inl rfl)]
 ·by_cases d:2<b.length
  ·have c:b=[]\/2<b.length\/b.all d7=false:=.inr (.inl d);rw[if_pos c,if_neg a,if_pos (.inr d)]
  ·have c:¬(b=[]\/2<b.length\/b.all d7=false):=fun h=>a (h.imp id (Or.imp (fun h=>absurd h d) id))
   rw[if_neg c,if_neg a];by_cases q:(bt 0 b:Int)<e\/f<(bt 0 b:Int)
   ·rw[if_pos q,if_neg];rintro(h|h)
    ·cases h
    ·exact d h
   ·rw[if_neg q];cases KA true h<;>simp[d]
theorem aaQ(s:Str)(N:s.length<1000000):∃p:Dn×Int,Fn G Tryz.prog 298 [.str s] (wS p)/\p.2=(nS s).2/\(p.2=0->p=nS s):=by
 obtain⟨R,a⟩:∃R,nS s=R:=⟨_,rfl⟩;rw[a];unfold nS at a;by_cases D:s.length<2
 ·rw[if_pos D]at a;subst a;refine⟨((0,0),4),?_,rfl,fun _=>rfl⟩;refine ae hm pc (by simp) ?_;simp[nT];simp(disch:=omega)[wl,wS]
 ·rw[if_neg D]at a;obtain⟨k,O⟩:∃k,s.length=k+2:=⟨s.length-2,by omega⟩;have w:s.length-2=k:=by omega
  rw[w]at a;have e0:((s.length:Int)-2)=(k:Int):=by omega
  have g:=Cw (s:=s) k;obtain⟨d,L⟩:∃d,vO (s.drop k)=d:=⟨_,rfl⟩;have j:=FE (s.drop k);have x:=My (s.drop k);rw[L]at j a x;by_cases E:d<0
  ·rw[if_pos E]at a;subst a;refine⟨((0,0),4),?_,rfl,fun _=>rfl⟩;refine ae hm pc (by simp) ?_;simp[nT];simp(disch:=omega)[wl,e0,g];refine⟨by omega,?_⟩;refine aa j ?_;simp(disch:=omega)[wl,wS]
  ·rw[if_neg E]at a;by_cases F:k=0
   ·rw[if_pos (by omega)]at a;subst a;refine⟨((0,d),0),?_,rfl,fun _=>rfl⟩;refine ae hm pc (by simp) ?_;simp[nT];simp(disch:=omega)[wl,e0,g];refine⟨by omega,?_⟩;refine aa j ?_;simp(disch:=omega)[wl,e0,g];refine⟨by omega,?_⟩;refine aa j ?_;simp(disch:=omega)[wl,wS,e0,F]
   ·rw[if_neg (by omega)]at a;rw[aeV]at a;obtain⟨h,y⟩:∃h,s.take k=h:=⟨_,rfl⟩;have f:h.length=k:=by rw[<-y,List.length_take];omega
    have z:=yf 1 53 true h (by omega);obtain⟨⟨n,e⟩,H⟩:∃p,cF 5 1 53 true h=p:=⟨_,rfl⟩;obtain⟨m,i⟩:∃m,(oJ true h).length=m:=⟨_,rfl⟩;rw[y,H,i]at a;rw[H]at z;simp only[ln]at z;obtain⟨c,r,b⟩:=List.exists_cons_of_ne_nil (show h≠[] by intro e;rw[e]at f;simp at f;omega);have M:r.length+1=k:=by rw[<-f,b];rfl
    have o:∀p:Dn×Int,p=(if e=4\/2<m then ((0,0),4)else ((n,d),e))->Fn G Tryz.prog 298 [.str s] (wS p):=by
     intro p l;refine ae hm pc (by simp) ?_;simp[nT];simp(disch:=omega)[wl,e0,g];refine⟨by omega,?_⟩;refine aa j ?_;simp(disch:=omega)[wl,e0,g];refine⟨by omega,?_⟩;refine aa j ?_;have A:¬h=[]:=by rw[b];simp
     simp(disch:=omega)[wl,e0,y,F,A];refine⟨by omega,?_⟩;refine wq hm [] [] (fun _:Unit=>[(6,.val (.int .i64 m))]) (fun _=>[]) (fun _=>True) ?_ ?_
     ·by_cases B:c=43
      ·subst B;have e1:m+1=k:=by rw[<-i,<-f,b];rfl
       simp;simp(disch:=omega)[wl,b];refine bE () trivial ?_;simp;exact ag rfl rfl (by simp[aI,ap,ac,b];omega) (by simp[bD,ac]) (by simp[bB])
      ·by_cases C:c=45
       ·subst C;have e1:m+1=k:=by rw[<-i,<-f,b];rfl
        simp;simp(disch:=omega)[wl,b];refine bE () trivial ?_;simp;exact ag rfl rfl (by simp[aI,ap,ac,b];omega) (by simp[bD,ac]) (by simp[bB])
       ·have e1:m=k:=by rw[<-i,<-f,b];simp[oJ,Wq,B,C]
        have I:¬c.toNat=43:=fun e=>B (UInt8.toNat_inj.1 e)
        have J:¬c.toNat=45:=fun e=>C (UInt8.toNat_inj.1 e)
        simp;simp(disch:=omega)[wl,b,I,J];refine bE () trivial ?_;simp;exact ag rfl rfl (by simp[aI,ap,ac,b,I,J];omega) (by simp[bD,ac]) (by simp[bB])
     ·rintro _ _;simp;refine aa z ?_;by_cases u:e=4
      ·rw[if_pos (.inl u)]at l;subst l;simp(disch:=omega)[wl,wS,u]
      ·by_cases K:2<m
       ·rw[if_pos (.inr K)]at l;subst l;simp(disch:=omega)[wl,wS,u]
       ·rw[if_neg (fun h=>h.elim u K)]at l;subst l;simp(disch:=omega)[wl,wS,u]
    refine⟨_,o _ rfl,?_⟩;by_cases q:e=4\/2<m
    ·rw[if_pos q]at a |-;rw[if_pos (by simp)]at a;subst a;exact⟨rfl,fun _=>rfl⟩
    ·rw[if_neg q]at a |-;simp only at a;by_cases v:e=0
     ·rw[if_neg (by simp[v])]at a;subst a;exact⟨v,fun _=>by rw[v]⟩
     ·rw[if_pos v]at a;subst a;exact⟨rfl,fun h=>absurd h v⟩
theorem adK(k:Nat)(h:k<10):Fn G Tryz.prog 183 [.int .i64 k] (.str [UInt8.ofNat (48+k)]):=by
 refine ae hm afu (by simp) ?_;simp[aeh];have e:(48+(k:Int)).toNat=48+k:=by omega
 simp(disch:=omega)[wl,nk,e]
theorem Vv{u:Nat}(h:u<10):decDigits u=[UInt8.ofNat (48+u)]:=by rw[decDigits,dif_pos h]
theorem TU{u:Nat}(h:¬u<10):decDigits u=decDigits (u/10)++[UInt8.ofNat (48+u%10)]:=by rw[decDigits,dif_neg h]
theorem af9{u:Nat}(h:u<10000000000000000000):(decDigits u).length<=19:=TK 18 u (by simpa using h)
theorem ags:∀(N u:Nat),u<=N->u<10000000000000000000->∀n:Int,n.natAbs=u->-9223372036854775808<=n->n<=9223372036854775807->Fn G Tryz.prog 126 [.int .i64 n] (.str (itoa n)):=by
 intro N
 induction N with
 |zero=>
  intro u k l n o p s;have f:n=0:=by omega
  subst f;refine ae hm aeg (by simp) ?_;simp[adE];refine aa (adK 0 (by omega)) ?_;have:itoa 0=[48]:=by unfold itoa;rw[if_neg (by omega)];exact Vv (by omega)
  rw[this];simp(disch:=omega)[wl]
 |succ N h=>
  intro u k l n o p s;obtain⟨q,d⟩:∃q,n.tdiv 10=q:=⟨_,rfl⟩;obtain⟨m,a⟩:∃m,n.tmod 10=m:=⟨_,rfl⟩;have Ef:=af9 (u:=u/10) (by omega);refine ae hm aeg (by simp) ?_;simp[adE];by_cases i:n<0
  ·have e0:n = -(u:Int):=by omega
   have e:q = -((u/10:Nat):Int):=by rw[<-d,e0,Int.neg_tdiv,Int.tdiv_eq_ediv_of_nonneg (by omega)];omega
   have j:m = -((u%10:Nat):Int):=by rw[<-a,e0,Int.neg_tmod,Int.tmod_eq_emod_of_nonneg (by omega)];omega
   rw[show itoa n=45::decDigits u by rw[e0,afs u (by omega)]];by_cases c:u<10
   ·have g:q=0:=by omega
    have b:=adK u c;have e1:-n=(u:Int):=by omega
    simp(disch:=omega)[wl,d,g,e1];refine aa b ?_;rw[Vv c];simp(disch:=omega)[wl]
   ·have g:¬q=0:=by omega
    have hT:=h (u/10) (by omega) (by omega) q (by omega) (by omega) (by omega);rw[e,afs (u/10) (by omega),<-e]at hT;have b:=adK (u%10) (by omega);have e1:-m=((u%10:Nat):Int):=by omega
    simp(disch:=omega)[wl,d,g];refine aa hT ?_;simp(disch:=omega)[wl,a,e1];refine aa b ?_;rw[TU c];simp(disch:=omega)[wl];omega
  ·have e0:n=(u:Int):=by omega
   have e:q=((u/10:Nat):Int):=by rw[<-d,e0,Int.tdiv_eq_ediv_of_nonneg (by omega)];omega
   have j:m=((u%10:Nat):Int):=by rw[<-a,e0,Int.tmod_eq_emod_of_nonneg (by omega)];omega
   rw[show itoa n=decDigits u by rw[e0,af4 u]];by_cases c:u<10
   ·have b:=adK u c;rw[<-e0]at b;simp(disch:=omega)[wl];refine aa b ?_;rw[Vv c];simp(disch:=omega)[wl]
   ·have hT:=h (u/10) (by omega) (by omega) q (by omega) (by omega) (by omega);rw[e,af4 (u/10),<-e]at hT;have b:=adK (u%10) (by omega);rw[<-j]at b;simp(disch:=omega)[wl,d];refine aa hT ?_;simp(disch:=omega)[wl,a];refine aa b ?_;rw[TU c];simp(disch:=omega)[wl];omega
def i64(n:Int):Prop:=-9223372036854775808<=n/\n<=9223372036854775807
theorem afv{n:Int}(h:i64 n):(itoa n).length<=20:=by
 have:=af9 (u:=n.natAbs) (by unfold i64 at h;omega);unfold itoa;split
 ·simp;omega
 ·rw[show n.toNat=n.natAbs by omega];omega
end Go.Vs.YtcjeehebikeghaaGreatDoor
namespace Go.Proofs
open Go.Shelf
def Tryz.laysM171_ren:Go.Shelf.Ren:=⟨fun|171=>65|243=>124|246=>181|283=>242|284=>243|285=>244|286=>245|129=>301|317=>300|318=>302|319=>303|320=>304|337=>336|338=>337|n=>n,fun|3=>3|9=>9|2=>2|4=>4|171=>338|0=>0|53=>339|37=>204|5=>5|173=>342|212=>392|51=>393|20=>20|213=>394|46=>395|232=>448|233=>449|n=>n,fun|17=>2|18=>6|19=>7|n=>n⟩
theorem Tryz.laysM171:Go.Proofs.LaysM.n171 Tryz.prog Tryz.laysM171_ren:={
 mixed:=by kernel_rfl
 f129:=Tryz.func301.trans (congrArg some (by kernel_rfl))
 f171:=Tryz.func65.trans (congrArg some (by kernel_rfl))
 f243:=Tryz.func124.trans (congrArg some (by kernel_rfl))
 f246:=Tryz.func181.trans (congrArg some (by kernel_rfl))
 f283:=Tryz.func242.trans (congrArg some (by kernel_rfl))
 f284:=Tryz.func243.trans (congrArg some (by kernel_rfl))
 f285:=Tryz.func244.trans (congrArg some (by kernel_rfl))
 f286:=Tryz.func245.trans (congrArg some (by kernel_rfl))
 f317:=Tryz.func300.trans (congrArg some (by kernel_rfl))
 f318:=Tryz.func302.trans (congrArg some (by kernel_rfl))
 f319:=Tryz.func303.trans (congrArg some (by kernel_rfl))
 f320:=Tryz.func304.trans (congrArg some (by kernel_rfl))
 f337:=Tryz.func336.trans (congrArg some (by kernel_rfl))
 f338:=Tryz.func337.trans (congrArg some (by kernel_rfl))
 t0:=Tryz.underlying0
 a0:=Tryz.isAgg0
 z0:=Tryz.sizeOf0
 v0:=Tryz.zeroValue0
 t2:=Tryz.underlying2
 a2:=Tryz.isAgg2
 z2:=Tryz.sizeOf2
 v2:=Tryz.zeroValue2
 t3:=Tryz.underlying3
 a3:=Tryz.isAgg3
 z3:=Tryz.sizeOf3
 v3:=Tryz.zeroValue3
 t4:=Tryz.underlying4
 a4:=Tryz.isAgg4
 z4:=Tryz.sizeOf4
 v4:=Tryz.zeroValue4
 t5:=Tryz.underlying5
 a5:=Tryz.isAgg5
 z5:=Tryz.sizeOf5
 v5:=Tryz.zeroValue5
 t9:=Tryz.underlying9
 a9:=Tryz.isAgg9
 z9:=Tryz.sizeOf9
 v9:=Tryz.zeroValue9
 t20:=Tryz.underlying20
 a20:=Tryz.isAgg20
 z20:=Tryz.sizeOf20
 v20:=Tryz.zeroValue20
 t37:=Tryz.underlying204
 a37:=Tryz.isAgg204
 z37:=Tryz.sizeOf204
 v37:=Tryz.zeroValue204
 t46:=Tryz.underlying395
 a46:=Tryz.isAgg395
 z46:=Tryz.sizeOf395
 v46:=Tryz.zeroValue395
 t51:=Tryz.underlying393
 a51:=Tryz.isAgg393
 z51:=Tryz.sizeOf393
 v51:=Tryz.zeroValue393
 t53:=Tryz.underlying339
 a53:=Tryz.isAgg339
 z53:=Tryz.sizeOf339
 v53:=Tryz.zeroValue339
 t171:=Tryz.underlying338
 a171:=Tryz.isAgg338
 z171:=Tryz.sizeOf338
 v171:=Tryz.zeroValue338
 t173:=Tryz.underlying342
 a173:=Tryz.isAgg342
 z173:=Tryz.sizeOf342
 v173:=Tryz.zeroValue342
 t212:=Tryz.underlying392
 a212:=Tryz.isAgg392
 z212:=Tryz.sizeOf392
 v212:=Tryz.zeroValue392
 t213:=Tryz.underlying394
 a213:=Tryz.isAgg394
 z213:=Tryz.sizeOf394
 t232:=Tryz.underlying448
 a232:=Tryz.isAgg448
 z232:=Tryz.sizeOf448
 v232:=Tryz.zeroValue448
 t233:=Tryz.underlying449
 a233:=Tryz.isAgg449
 z233:=Tryz.sizeOf449
 v233:=Tryz.zeroValue449
 g17:=by kernel_rfl
 g18:=by kernel_rfl
 g19:=by kernel_rfl
 i0:=by kernel_rfl
 i2:=by kernel_rfl
 i3:=by kernel_rfl
 i4:=by kernel_rfl
 i5:=by kernel_rfl
 i9:=by kernel_rfl
 i20:=by kernel_rfl
 i37:=by kernel_rfl
 i46:=by kernel_rfl
 i51:=by kernel_rfl
 i53:=by kernel_rfl
 i171:=by kernel_rfl
 i173:=by kernel_rfl
 i212:=by kernel_rfl
 i232:=by kernel_rfl
 i233:=by kernel_rfl
 m17:=by kernel_rfl
 m18:=by kernel_rfl
 m19:=by kernel_rfl }
open Go.RowKit Go.Sort Go.Lib in
theorem Tryz.strconv_Itoa(n:Int)(b:-9223372036854775808<=n)(c:n<=9223372036854775807)(w:World)(a:Lib.TabIs Tryz.prog w "internal/strconv.uint64pow10" .u64 Lib.pow10Tab) :
  Calls Tryz.prog 65 #[.int .i64 n] w fun e d=>e=.returned (.string ⟨(Lib.itoa n).toArray⟩)/\∃k f,d=grow (w.drewN k) f:=Any.strconv_Itoa Tryz.laysM171 n b c w a
end Go.Proofs
namespace Go.Vs.YtcjeehebikeghaaGreatDoor
open Go.Proofs Go.Proofs.YtcjeehebikeghaaGreatDoor Go.RowKit Go.Lib
theorem ac4{P:Program}{w:World}{S:ba}{a:String}{g:Nat}{k:IntKind}{zs:List Int}(m:P.globalNamed a=some g)(h:gX w S (g,zs.map (.int k ·))):TabIs P w a k zs:=by
 obtain⟨d,t,b⟩:=h;simp only[List.length_map]at d b;unfold World.shape? at b;split at b
 ·next cs e p f=>
  simp only[Option.some.injEq,Prod.mk.injEq]at b;unfold TabIs World.var?;rw[m];simp only[Option.bind_some,f,Option.some.injEq];apply Array.ext
  ·simpa using b.2
  ·intro i Kl n;have o:i<zs.length:=by omega
   obtain⟨v,l,c⟩:=lI (j:=i) (x:=.int k zs[i]) d (by simp[o]);have c:v=_:=c;subst c;simp only[World.cell?,f,Nat.zero_add]at l;have:cs[i]?=some (.int k zs[i]):=by simpa using l
   rw[Array.getElem?_eq_getElem Kl]at this;simpa using this
 ·cases b
theorem aaR(n:Int)(f:-9223372036854775808<=n)(h:n<=9223372036854775807):Fn G Tryz.prog 65 [.int .i64 n] (.str (itoa n)):=by
 refine HN ⟨Tryz.f65,Tryz.func65,by decide⟩ ?_;rintro w S m o b ⟨i,_,rfl,c,d⟩;have c:i=.int .i64 n:=c;have d:_=[]:=d;subst c;subst d;have a:TabIs Tryz.prog w "internal/strconv.uint64pow10" .u64 pow10Tab:=ac4 (g:=2) (by kernel_rfl) (b (2,XC.map (.int .u64 ·)) (by simp[G]));refine dP Tryz.func65 (by decide) ((Tryz.strconv_Itoa n f h w a).mono ?_);rintro e p ⟨rfl,k,q,rfl⟩;refine⟨_,rfl,?_,rfl⟩;exact⟨rfl,rfl,rfl,by simp[Go.Sort.grow,World.drewN],fun j l=>by rw[Go.Sort.grow];exact Array.getElem?_append_left l⟩
end Go.Vs.YtcjeehebikeghaaGreatDoor
namespace Go.Vs.YtcjeehebikeghaaGreatDoor
open Go.Proofs Go.Vs.U8 Go.Vs.Pa Go.Vs.Nu Go.Lib
theorem aga{b:Nat}{c:UInt8} : ∀ {l:List Str},(∀x∈l,x.length<=b)->(join l [c]).length<=l.length*(b+1)
 |[],_=>by rw[join_nil];simp
 |[x],h=>by rw[join_one];have:=h x (by simp);simp;omega
 |x::y::r,h=>by
  have d:=aga (c:=c) (l:=y::r) (fun z a=>h z (by simp at a |-;exact .inr a));have f:=h x (by simp)
  have e:join (x::y::r) [c]=x++c::join (y::r) [c]:=by
   rw[join_cons,join_cons];simp[joinTail]
  rw[e,List.length_append,List.length_cons];simp only[List.length_cons]at d |-;have:(r.length+1+1)*(b+1)=(r.length+1)*(b+1)+(b+1):=Nat.succ_mul _ _;omega
def adJ{a:Type}(f:a->Str)(l:List a):Str:=join (l.map f) [44]
theorem agc{a:Type}(f:a->Str):adJ f []=[]:=rfl
theorem agd{a:Type}(f:a->Str){l:List a}{i:Nat}{x:a}(h:i<l.length)(c:l[i]=x)(d:i=0):adJ f (l.take (i+1))=f x/\adJ f (l.take i)=[]:=by
 subst d;rw[List.take_succ_eq_append_getElem h,c];exact⟨by simp[adJ,join_one],by simp[adJ,join_nil]⟩
theorem af6{a:Type}(f:a->Str){l:List a}{i:Nat}{x:a}(h:i<l.length)(d:l[i]=x)(g:0<i):adJ f (l.take (i+1))=adJ f (l.take i)++44::f x:=by
 have c:(l.take i).map f≠[]:=by
  intro e;have:=congrArg List.length e;rw[List.length_map,List.length_take,List.length_nil]at this;omega
 rw[List.take_succ_eq_append_getElem h,d];unfold adJ;rw[List.map_append,List.map_cons,List.map_nil,agb c];rfl
theorem agj{a:Type}{f:a->Str}{l:List a}{b:Nat}(h:∀x∈l,(f x).length<=b)(i:Nat):(adJ f (l.take i)).length<=l.length*(b+1):=by
 have:=aga (c:=44) (l:=(l.take i).map f) (b:=b) (fun x d=>by
  obtain⟨n,e,rfl⟩:=List.mem_map.1 d
  exact h n (List.mem_of_mem_take e))
 rw[List.length_map]at this;have g:(l.take i).length<=l.length:=by rw[List.length_take];omega
 have:=Nat.mul_le_mul_right (b+1) g;unfold adJ;omega
theorem agk{n:Int}(h:i64 n):Fn G Tryz.prog 126 [.int .i64 n] (.str (itoa n)):=ags n.natAbs n.natAbs (Nat.le_refl _) (by unfold i64 at h;omega) n rfl h.1 h.2
theorem af7(l:List Int)(s:l.length<=1000)(m:∀n∈l,i64 n):Fn G Tryz.prog 76 [.slice (is l)] (.str (acZ l)):=by
 refine ae hm aft (by simp) ?_;rw[show acZ l=adJ itoa l from rfl];have g:=fun i=>agj (f:=itoa) (l:=l) (b:=20) (fun x c=>afv (m x c)) i
 simp[adT];refine be hm [] (fun i:Nat=>[(4,.val (.int .i64 i)),(3,.val (.str (adJ itoa (l.take i))))]) (fun _=>[]) (fun i=>i<=l.length) (fun i=>l.length-i) 0 (by omega) ?_ ?_
 ·simp[agc];exact bp
 intro i u;simp[is_len];by_cases h:i<l.length
 ·obtain⟨x,c⟩:∃x,l[i]=x:=⟨_,rfl⟩;have a:=m x (c▸List.getElem_mem h);have hT:=agk a;have j:=uG h c;have o:=afv a;have p:=g i;by_cases e:i=0
  ·obtain⟨k,q⟩:=agd itoa h c e;rw[q];have d:=j;rw[e]at d;simp(disch:=omega)[wl,is_len,j,d,e];refine aa hT ?_;simp(disch:=omega)[wl]
   try refine⟨by omega,?_⟩
   refine ai (i+1) (by omega) (by omega) ?_;simp[k];exact ag rfl rfl (by simp[aI,ap,ac,e]) (by simp[bD,ac]) (by simp[bB])
  ·have k:=af6 itoa h c (by omega);simp(disch:=omega)[wl,is_len,j];refine⟨by omega,?_⟩;refine aa hT ?_;simp(disch:=omega)[wl]
   try refine⟨by omega,?_⟩
   refine ai (i+1) (by omega) (by omega) ?_;simp[k];exact bp
 ·obtain rfl:i=l.length:=by omega
  rw[List.take_length];simp(disch:=omega)[wl,is_len]
theorem Y3(s:Str)(N:s.length<1000000):Fn G Tryz.prog 233 [.str s] (Iz (bK nS s)):=by
 obtain⟨R,g⟩:∃R,bK nS s=R:=⟨_,rfl⟩;rw[g];unfold bK at g;obtain⟨L,E⟩:∃L,parts 44 s=L:=⟨_,rfl⟩;have F:∀x∈L,x.length<=s.length:=fun x z=>gg (E▸z)
 have O:L.length<=1000001:=by
  have:=kX 44 s;have I:s.count 44<=s.length:=List.count_le_length;rw[E]at this;omega
 have J:=Qw s N;rw[E]at J g;refine ae hm Kz (by simp) ?_;simp[Cs];refine aa J ?_;simp[aQ];refine Iy hm [] [] (fun x:Nat×List Dn=>[(8,.val (.int .i64 x.2.length)),(7,.val (.int .i64 x.1)),(5,.own 5 x.2.length)]) (fun x=>[(5,.arr x.2.length 2 (sX x.2))]) (fun x=>x.2.length<=L.length/\x.2.length<=12/\x.1<=1000001*x.2.length/\em nS (L.drop x.2.length) x.1 x.2=R) (fun x=>L.length-x.2.length) (0,[]) ⟨by simp,by simp,by simp,by simpa using g⟩ ?_ ?_
 ·simp[sX];exact cH.trans (ct (k:=5) 5 2 (by simp) (by simp[ap,ac])) (ag rfl rfl (by simp[St.adopt,aI,ap,ac,put,cS,SV.erase]) (by simp[St.adopt,bD,ac,put,ck,Ob.erase]) (by simp[St.adopt,bB]))
 rintro⟨a,d⟩ ⟨P,I,Q,b⟩;simp only at P I Q b;simp[aH,aQ];by_cases h:d.length<L.length
 ·obtain⟨x,z⟩:∃x,L[d.length]=x:=⟨_,rfl⟩;have K:=kM h z;have S:=F x (z▸List.getElem_mem h);rw[List.drop_eq_getElem_cons h,z,em]at b;by_cases j:d.length=12
  ·rw[if_pos j]at b;subst b;simp(disch:=omega)[wl,aH,aQ,j];simp[Iz]
  ·rw[if_neg j]at b;obtain⟨⟨n,e⟩,M,o,A⟩:=aaQ x (by omega);simp only[wS]at M;simp only at o A;simp(disch:=omega)[wl,K,aH,aQ,j];refine aa M ?_;by_cases C:e=0
   ·have U:=A C;subst C;rw[<-U]at b;rw[if_neg (by simp)]at b;simp only at b;simp(disch:=omega)[wl,aH];refine Iy hm [] [] (fun k:Nat=>[(11,.val (.int .i64 k))]) (fun _=>[(9,.box [.val (.int .i64 n.1),.val (.int .i64 n.2)])]) (fun k=>k<=d.length/\n∉d.take k) (fun k=>d.length-k) 0 ⟨by omega,by simp⟩ ?_ ?_
    ·simp;exact bp
    rintro k ⟨V,l⟩;simp[aH];by_cases m:k<d.length
    ·obtain⟨y,D⟩:∃y,d[k]=y:=⟨_,rfl⟩;have p:=kC m D;by_cases e1:y.1=n.1
     ·by_cases e2:y.2=n.2
      ·have H:y=n:=Prod.ext e1 e2;have B:n∈d:=by rw[<-H,<-D];exact List.getElem_mem m
       rw[if_pos B]at b;subst b;simp(disch:=omega)[wl,aH,p,e1,e2];simp[Iz];omega
      ·have q:¬n=y:=fun h=>e2 (by rw[h])
       simp(disch:=omega)[wl,aH,p,e1,e2];refine⟨by omega,?_⟩;refine ai (k+1) ⟨by omega,take_no m D l q⟩ (by omega) ?_;simp;exact bp
     ·have q:¬n=y:=fun h=>e1 (by rw[h])
      simp(disch:=omega)[wl,aH,p,e1]
      try refine⟨by omega,?_⟩
      refine ai (k+1) ⟨by omega,take_no m D l q⟩ (by omega) ?_;simp;exact bp
    ·obtain rfl:k=d.length:=by omega
     rw[List.take_length]at l;rw[if_neg l]at b;simp(disch:=omega)[wl,aH,K,aQ];refine⟨by omega,?_⟩;refine ai (a+x.length+1,d++[n]) ⟨by simp;omega,by simp;omega,by simp;omega,by simpa using b⟩ (by simp;omega) ?_;simp[Iw];exact ag rfl rfl (by simp[aI,ap,ac];omega) (by simp[bD,ac]) (by simp[bB])
   ·rw[if_pos (by rw[<-o];exact C),<-o]at b;subst b;simp(disch:=omega)[wl,aH,C];simp[Iz]
 ·have e:L.drop d.length=[]:=List.drop_eq_nil_of_le (by omega);rw[e,em]at b;subst b;have e2:d.length=L.length:=by omega
  simp(disch:=omega)[wl,aH,aQ];simp[Iz]
end Go.Vs.YtcjeehebikeghaaGreatDoor
