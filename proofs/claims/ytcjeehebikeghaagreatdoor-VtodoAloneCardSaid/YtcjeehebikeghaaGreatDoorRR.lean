/- A part of a proof. No conditions. -/
import Derived.Test.YtcjeehebikeghaaGreatDoorRQ
set_option linter.unusedVariables false
set_option linter.unusedSimpArgs false
set_option maxRecDepth 100000
set_option maxHeartbeats 64000000
namespace Go.Vs.YtcjeehebikeghaaGreatDoor.Rc
open Go.Proofs Go.Vs.U8 Go.Vs.Pa Go.Vs.Cv Go.Vs.Mo Go.Vs.Nu Go.Lib
theorem Oj(r:Ru)(k:Nat)(h:k∈dj)(h7:k≠7):mP G2 T_ 204
  {args:=[.loc 1000 0,.val (.int .i64 k)],objs:=[(1000,.box (ef r))],res:=.loc 1000 (k+1),objs':=[(1000,.box (ef r))],ro':=[] }:=by
 refine bn hm iR (by simp) rfl ?_;simp[fm,nj,ef];rcases k8 h h7 with rfl|rfl|rfl|rfl|rfl|rfl|rfl|rfl <;>
 ·simp(disch:=omega)[wl];simp[cn];exact⟨⟨[(4,.loc 1000 _)],[(1000,.box (ef r))],[],44,G2⟩,ap rfl rfl (by simp[bp,aC,ac]) (by simp[ch,ac,ef]) (by simp[cg]),by simp[ef],[],rfl,rfl,rfl⟩
def x7{α:Type} : GotE α->List α
 |.ok l=>l
 |.no _ _=>[]
def u3{α:Type} : GotE α->IV
 |.ok _=>.nili
 |.no e p=>cS e [(p:Int)]
theorem Tx(R:GotE Dn):AD R=.tuple [.slice (zK (x7 R)),u3 R]:=by cases R<;>rfl
theorem Ty(R:GotE Int):AC R=.tuple [.slice (is (x7 R)),u3 R]:=by cases R<;>rfl
theorem HN(r:Ru)(k:Nat)(h:k∈dj)(h7:k≠7)(v:Str)(hv:v.length<1000000):mP G2 T_ 219
  {args:=[.loc 1000 0,.val (.int .i64 k),.val (.str v)],objs:=[(1000,.box (ef r))],res:=.val (u3 (dC (eH 5 (JO k) (JP k) (Oc k)) v)),objs':=[(1000,.box (ef (ko r k (x7 (dC (eH 5 (JO k) (JP k) (Oc k)) v)))))],ro':=[] }:=by
 refine bn hm gu (by simp) rfl ?_;have hW:=fn_within k (by simp[dj]at h;omega);have hL:=up (Tb (JO k) (JP k) (Oc k) v hv);rw[Ty]at hL;obtain⟨R,hR⟩:∃R,dC (eH 5 (JO k) (JP k) (Oc k)) v=R:=⟨_,rfl⟩;rw[hR]at hL |-;have hM:=Oj r k h h7;unfold Xo at hW;simp[dM,nj];simp(disch:=omega)[wl,h7];refine aa hW ?_;simp(disch:=omega)[wl];refine aa hL ?_;simp(disch:=omega)[wl];refine callM [] [] hM rfl rfl ⟨rfl,trivial⟩ ⟨rfl,[],[],rfl,rfl,rfl⟩ rfl ?_;rcases k8 h h7 with rfl|rfl|rfl|rfl|rfl|rfl|rfl|rfl
 ·simp(disch:=omega)[wl,ef];simp[cn];exact⟨⟨[(6,.val (u3 R))],[(1000,.box (ef (ko r 4 (x7 R))))],[],43,G2⟩,ap rfl rfl (by simp[bp,aC,ac]) (by simp[ch,ac,ef,ko]) (by simp[cg]),by simp[ef,ko],[],rfl,rfl,rfl⟩
 ·simp(disch:=omega)[wl,ef];simp[cn];exact⟨⟨[(6,.val (u3 R))],[(1000,.box (ef (ko r 5 (x7 R))))],[],43,G2⟩,ap rfl rfl (by simp[bp,aC,ac]) (by simp[ch,ac,ef,ko]) (by simp[cg]),by simp[ef,ko],[],rfl,rfl,rfl⟩
 ·simp(disch:=omega)[wl,ef];simp[cn];exact⟨⟨[(6,.val (u3 R))],[(1000,.box (ef (ko r 6 (x7 R))))],[],43,G2⟩,ap rfl rfl (by simp[bp,aC,ac]) (by simp[ch,ac,ef,ko]) (by simp[cg]),by simp[ef,ko],[],rfl,rfl,rfl⟩
 ·simp(disch:=omega)[wl,ef];simp[cn];exact⟨⟨[(6,.val (u3 R))],[(1000,.box (ef (ko r 8 (x7 R))))],[],43,G2⟩,ap rfl rfl (by simp[bp,aC,ac]) (by simp[ch,ac,ef,ko]) (by simp[cg]),by simp[ef,ko],[],rfl,rfl,rfl⟩
 ·simp(disch:=omega)[wl,ef];simp[cn];exact⟨⟨[(6,.val (u3 R))],[(1000,.box (ef (ko r 9 (x7 R))))],[],43,G2⟩,ap rfl rfl (by simp[bp,aC,ac]) (by simp[ch,ac,ef,ko]) (by simp[cg]),by simp[ef,ko],[],rfl,rfl,rfl⟩
 ·simp(disch:=omega)[wl,ef];simp[cn];exact⟨⟨[(6,.val (u3 R))],[(1000,.box (ef (ko r 10 (x7 R))))],[],43,G2⟩,ap rfl rfl (by simp[bp,aC,ac]) (by simp[ch,ac,ef,ko]) (by simp[cg]),by simp[ef,ko],[],rfl,rfl,rfl⟩
 ·simp(disch:=omega)[wl,ef];simp[cn];exact⟨⟨[(6,.val (u3 R))],[(1000,.box (ef (ko r 11 (x7 R))))],[],43,G2⟩,ap rfl rfl (by simp[bp,aC,ac]) (by simp[ch,ac,ef,ko]) (by simp[cg]),by simp[ef,ko],[],rfl,rfl,rfl⟩
 ·simp(disch:=omega)[wl,ef];simp[cn];exact⟨⟨[(6,.val (u3 R))],[(1000,.box (ef (ko r 12 (x7 R))))],[],43,G2⟩,ap rfl rfl (by simp[bp,aC,ac]) (by simp[ch,ac,ef,ko]) (by simp[cg]),by simp[ef,ko],[],rfl,rfl,rfl⟩
theorem HO(r:Ru)(v:Str)(hv:v.length<1000000):mP G2 T_ 219
  {args:=[.loc 1000 0,.val (.int .i64 7),.val (.str v)],objs:=[(1000,.box (ef r))],res:=.val (u3 (dC y6 v)),objs':=[(1000,.box (ef {r with l7:=x7 (dC y6 v) }))],ro':=[] }:=by
 refine bn hm gu (by simp) rfl ?_;have hL:=up (Tc v hv);rw[Tx]at hL;obtain⟨R,hR⟩:∃R,dC y6 v=R:=⟨_,rfl⟩;rw[hR]at hL |-;simp[dM,nj];refine aa hL ?_;simp(disch:=omega)[wl,ef];simp[cn];exact⟨⟨[(6,.val (u3 R))],[(1000,.box (ef {r with l7:=x7 R }))],[],43,G2⟩,ap rfl rfl (by simp[bp,aC,ac]) (by simp[ch,ac,ef]) (by simp[cg]),by simp[ef],[],rfl,rfl,rfl⟩
def X7(v:Str):Nat:=min (tF.idxOf v) 6
def tkP(r:Ru)(k:Nat)(v:Str):Ru×Int:=
 if k=0 then ({r with f:=(X7 v:Nat) },if tF.idxOf v<7 then 0 else 11)
 else if k=1 then ({r with u:=(gq v).1 },(gq v).2)
 else if k=2 then ({r with c:=(eH 5 1 1000 false v).1 },(eH 5 1 1000 false v).2)
 else if k=3 then ({r with i:=(eH 5 1 1000 false v).1 },(eH 5 1 1000 false v).2)
 else ({r with w:=EM v },if EM v<0 then 4 else 0)
def uP(e:Int):IV:=if e=0 then .nili else cS e [0]
theorem Tz{v:Str}{k:Nat}(h:k<tF.idxOf v)(hk:k<=6):¬AK k=v:=fun e=>by
 have:=List.not_of_lt_findIdx (p:=(· == v)) (xs:=tF) (i:=k) h;subst e;rcases k7 hk with rfl|rfl|rfl|rfl|rfl|rfl|rfl<;>exact Bool.noConfusion (show true=false from this)
theorem fnM_take(r:Ru)(k:Nat)(hk:k=0\/k=1\/k=2\/k=3\/k=13)(v:Str)(hv:v.length<1000000):mP G2 T_ 221
  {args:=[.loc 1000 0,.val (.int .i64 k),.val (.str v)],objs:=[(1000,.box (ef r))],res:=.val (uP (tkP r k v).2),objs':=[(1000,.box (ef (tkP r k v).1))],ro':=[] }:=by
 refine bn hm ov (by simp) rfl ?_;obtain⟨⟨r',e⟩,hT⟩:∃p,tkP r k v=p:=⟨_,rfl⟩;rw[hT];have hN:=up (fd e 0);have hNe:(if e=0 then IV.nili else cS e [0])=uP e:=rfl;rw[hNe]at hN;simp[je,nj];rcases hk with rfl|rfl|rfl|rfl|rfl
 ·simp only[tkP]at hT;rw[if_pos trivial]at hT;obtain⟨X,hX⟩:∃X,tF.idxOf v=X:=⟨_,rfl⟩;have hX7:X<=7:=by rw[<-hX];exact List.idxOf_le_length
  have hfr:X7 v=min X 6:=by unfold X7;rw[hX]
  have hXv:X<7->AK X=v:=fun h=>by
   have h1:tF.idxOf v<tF.length:=by rw[hX];exact h
   have h2:=List.getElem_idxOf h1;unfold AK;rw[List.getD_eq_getElem?_getD,<-hX,List.getElem?_eq_getElem h1,h2];rfl
  have hlt:∀i,i<X->i<=6->¬AK i=v:=fun i h1 h2=>Tz (by rw[hX];exact h1) h2
  rw[hX,hfr]at hT;obtain⟨Y,hY⟩:∃Y,min X 6=Y:=⟨_,rfl⟩;rw[hY]at hT;obtain⟨rfl,he⟩:=Prod.mk.inj hT;simp(disch:=omega)[wl,ef];refine ce hm [] (fun _:Nat=>[]) (fun i=>[(1000,.box (ef {r with f:=(i:Nat) }))]) (fun i=>i<=min X 6) (fun i=>6-i) 0 (by omega) ?_ ?_
  ·simp[ef];exact bQ
  intro i hi;have hWd:=Ts i (by omega);simp[ef];have hend:∀A B C:Prop,A->B->C->A/\B/\C:=fun _ _ _ a b c=>⟨a,b,c⟩
  by_cases h6:i<6
  ·simp(disch:=omega)[wl,h6];refine aa hWd ?_;by_cases hx:i=X
   ·have hw:AK i=v:=by rw[hx];exact hXv (by omega)
    obtain rfl:i=Y:=by omega
    rw[if_pos (by omega)]at he;subst he;simp(disch:=omega)[wl,hw];rw[hw]at hWd;refine aa hWd ?_;simp(disch:=omega)[wl];refine aa hN ?_;simp(disch:=omega)[wl];simp[cn];exact⟨⟨[(6,.val (uP 0))],[(1000,.box (ef {r with f:=((i:Nat):Int) }))],[],91,G2⟩,ap rfl rfl (by simp[bp,aC,ac]) (by simp[ch,ac,ef]) (by simp[cg]),by simp[ef],[],rfl,rfl,rfl⟩
   ·have hne:=hlt i (by omega) (by omega);simp(disch:=omega)[wl,hne];refine au (i+1) (by omega) (by omega) ?_;simp[ef];exact bQ
  ·obtain rfl:i=6:=by omega
   simp(disch:=omega)[wl];refine aa hWd ?_;by_cases hx:X=6
   ·obtain rfl:6=Y:=by omega
    have hw:AK 6=v:=by have:=hXv (by omega);rwa[hx]at this
    rw[if_pos (by omega)]at he;subst he;simp(disch:=omega)[wl,hw];refine aa hN ?_;simp(disch:=omega)[wl];simp[cn];exact⟨⟨[(6,.val (uP 0))],[(1000,.box (ef {r with f:=((6:Nat):Int) }))],[],91,G2⟩,ap rfl rfl (by simp[bp,aC,ac]) (by simp[ch,ac,ef]) (by simp[cg]),by simp[ef],[],rfl,rfl,rfl⟩
   ·obtain rfl:6=Y:=by omega
    have hne:=hlt 6 (by omega) (by omega);rw[if_neg (by omega)]at he;subst he;simp(disch:=omega)[wl,hne];refine aa hN ?_;simp(disch:=omega)[wl];simp[cn];exact⟨⟨[(6,.val (uP 11))],[(1000,.box (ef {r with f:=((6:Nat):Int) }))],[],91,G2⟩,ap rfl rfl (by simp[bp,aC,ac]) (by simp[ch,ac,ef]) (by simp[cg]),by simp[ef],[],rfl,rfl,rfl⟩
 ·have hP:=uI v hv;simp only[tkP]at hT;rw[if_neg (by omega),if_pos trivial]at hT;obtain⟨P,hP'⟩:∃P,gq v=P:=⟨_,rfl⟩;rw[hP']at hP hT;obtain⟨rfl,rfl⟩:=Prod.mk.inj hT;unfold lK at hP;simp(disch:=omega)[wl];refine aa hP ?_;simp(disch:=omega)[wl,ef];refine aa hN ?_;simp(disch:=omega)[wl];simp[cn];exact⟨⟨[(6,.val (uP P.2))],[(1000,.box (ef {r with u:=P.1 }))],[],91,G2⟩,ap rfl rfl (by simp[bp,aC,ac]) (by simp[ch,ac,ef]) (by simp[cg]),by simp[ef],[],rfl,rfl,rfl⟩
 ·have hP:=up (BA 1 1000 false v hv);simp only[tkP]at hT;rw[if_neg (by omega),if_neg (by omega),if_pos trivial]at hT;obtain⟨P,hP'⟩:∃P,eH 5 1 1000 false v=P:=⟨_,rfl⟩;rw[hP']at hP hT;obtain⟨rfl,rfl⟩:=Prod.mk.inj hT;unfold O1 at hP;simp(disch:=omega)[wl];refine aa hP ?_;by_cases h0:P.2=0
  ·rw[if_pos h0];rw[h0]at hN;simp(disch:=omega)[wl,ef];refine aa (up Av) ?_;simp(disch:=omega)[wl];refine aa hN ?_;simp(disch:=omega)[wl];simp[cn];exact⟨⟨[(6,.val (uP P.2))],[(1000,.box (ef {r with c:=P.1 }))],[],91,G2⟩,ap rfl rfl (by simp[bp,aC,ac,h0]) (by simp[ch,ac,ef]) (by simp[cg]),by simp[ef],[],rfl,rfl,rfl⟩
  ·rw[if_neg h0];simp(disch:=omega)[wl,ef];refine aa (up (uE P.2 [0])) ?_;simp(disch:=omega)[wl];refine aa hN ?_;simp(disch:=omega)[wl];simp[cn];exact⟨⟨[(6,.val (uP P.2))],[(1000,.box (ef {r with c:=P.1 }))],[],91,G2⟩,ap rfl rfl (by simp[bp,aC,ac]) (by simp[ch,ac,ef]) (by simp[cg]),by simp[ef],[],rfl,rfl,rfl⟩
 ·have hP:=up (BA 1 1000 false v hv);simp only[tkP]at hT;rw[if_neg (by omega),if_neg (by omega),if_neg (by omega),if_pos trivial]at hT;obtain⟨P,hP'⟩:∃P,eH 5 1 1000 false v=P:=⟨_,rfl⟩;rw[hP']at hP hT;obtain⟨rfl,rfl⟩:=Prod.mk.inj hT;unfold O1 at hP;simp(disch:=omega)[wl];refine aa hP ?_;by_cases h0:P.2=0
  ·rw[if_pos h0];rw[h0]at hN;simp(disch:=omega)[wl,ef];refine aa (up Av) ?_;simp(disch:=omega)[wl];refine aa hN ?_;simp(disch:=omega)[wl];simp[cn];exact⟨⟨[(6,.val (uP P.2))],[(1000,.box (ef {r with i:=P.1 }))],[],91,G2⟩,ap rfl rfl (by simp[bp,aC,ac,h0]) (by simp[ch,ac,ef]) (by simp[cg]),by simp[ef],[],rfl,rfl,rfl⟩
  ·rw[if_neg h0];simp(disch:=omega)[wl,ef];refine aa (up (uE P.2 [0])) ?_;simp(disch:=omega)[wl];refine aa hN ?_;simp(disch:=omega)[wl];simp[cn];exact⟨⟨[(6,.val (uP P.2))],[(1000,.box (ef {r with i:=P.1 }))],[],91,G2⟩,ap rfl rfl (by simp[bp,aC,ac]) (by simp[ch,ac,ef]) (by simp[cg]),by simp[ef],[],rfl,rfl,rfl⟩
 ·have hP:=up (D4 v);simp only[tkP]at hT;rw[if_neg (by omega),if_neg (by omega),if_neg (by omega),if_neg (by omega)]at hT;obtain⟨P,hP'⟩:∃P,EM v=P:=⟨_,rfl⟩;rw[hP']at hP hT;obtain⟨rfl,he⟩:=Prod.mk.inj hT;simp(disch:=omega)[wl];refine aa hP ?_;by_cases h0:P<0
  ·rw[if_pos h0]at he;subst he;simp(disch:=omega)[wl,ef,h0];refine aa hN ?_;simp(disch:=omega)[wl];simp[cn];exact⟨⟨[(6,.val (uP 4))],[(1000,.box (ef {r with w:=P }))],[],91,G2⟩,ap rfl rfl (by simp[bp,aC,ac]) (by simp[ch,ac,ef]) (by simp[cg]),by simp[ef],[],rfl,rfl,rfl⟩
  ·rw[if_neg h0]at he;subst he;simp(disch:=omega)[wl,ef,h0];refine aa hN ?_;simp(disch:=omega)[wl];simp[cn];exact⟨⟨[(6,.val (uP 0))],[(1000,.box (ef {r with w:=P }))],[],91,G2⟩,ap rfl rfl (by simp[bp,aC,ac]) (by simp[ch,ac,ef]) (by simp[cg]),by simp[ef],[],rfl,rfl,rfl⟩
theorem AT{α:Type} [DecidableEq α]{one:Str->α×Int} : ∀ {L:List Str} {a:Nat} {out l:List α},kH one L a out=.ok l->out.length<=12->l.length<=12
 |[],a,out,l,h,ho=>by simp only[kH,GotE.ok.injEq]at h;rw[<-h];exact ho
 |x::r,a,out,l,h,ho=>by
  simp only[kH]at h;split at h
  ·cases h
  ·split at h
   ·cases h
   ·split at h
    ·cases h
    ·exact AT h (by simp;omega)
theorem rC{α:Type} [DecidableEq α]{one:Str->α×Int}{s:Str}{l:List α}(h:dC one s=.ok l):l.length<=12:=AT h (by simp)
theorem Rh(r:Ru)(k:Nat)(hk:k=0\/k=1\/k=2\/k=3\/k=13)(v:Str):AL r k v=if (tkP r k v).2=0 then .ok (tkP r k v).1 else .no (tkP r k v).2 []:=by
 rcases hk with rfl|rfl|rfl|rfl|rfl
 ·simp only[AL,tkP,X7,if_true];by_cases h:tF.idxOf v<7
  ·rw[if_pos h,if_pos h,if_pos rfl];congr 2;omega
  ·rw[if_neg h,if_neg h,if_neg (by decide)]
 ·rfl
 ·rfl
 ·rfl
 ·show(if EM v<0 then TkR.no 4 []else .ok {r with w:=EM v })=if (if EM v<0 then (4:Int)else 0)=0 then .ok {r with w:=EM v } else .no (if EM v<0 then (4:Int)else 0) []
  by_cases h:EM v<0
  ·rw[if_pos h,if_pos h,if_neg (by decide)]
  ·rw[if_neg h,if_neg h,if_pos rfl]
theorem Uu(r:Ru)(k:Nat)(h:k∈dj)(h7:k≠7)(v:Str):AL r k v=match dC (eH 5 (JO k) (JP k) (Oc k)) v with
  |.ok l=>.ok (ko r k l)
  |.no e p=>.no e [(p:Int)]:=by
 unfold AL;have:=k8 h h7;rw[if_neg (by omega),if_neg (by omega),if_neg (by omega),if_neg (by omega),if_neg (by omega),if_neg (by omega)];cases dC (eH 5 (JO k) (JP k) (Oc k)) v<;>rfl
theorem Uv(r:Ru)(v:Str):AL r 7 v=match dC y6 v with
  |.ok l=>.ok {r with l7:=l }
  |.no e p=>.no e [(p:Int)]:=by
 unfold AL;rw[if_neg (by omega),if_neg (by omega),if_neg (by omega),if_neg (by omega),if_pos rfl];cases dC y6 v<;>rfl
def Fin(r:Ru):Prop:=zT r/\0<=r.u.k/\0<=r.f
theorem Ri(s:Str):0<=om s:=by
 rcases x5 s with⟨h,_⟩|⟨h,_⟩|⟨h,_⟩|⟨h,_⟩<;>omega
theorem VD(s:Str):0<=(gq s).1.k:=by
 unfold gq;split
 ·simp
 ·split
  ·simp
  ·exact Ri s
theorem Lw{r:Ru}(k:Nat)(v:Str)(h:Fin r):Fin (tkP r k v).1:=by
 obtain⟨h1,h2,h3⟩:=h;unfold tkP;split
 ·exact⟨h1,h2,by simp⟩
 ·split
  ·exact⟨h1,VD v,h3⟩
  ·split
   ·exact⟨h1,h2,h3⟩
   ·split
    ·exact⟨h1,h2,h3⟩
    ·exact⟨h1,h2,h3⟩
theorem Rj{r:Ru}{k:Nat}{l:List Int}(hl:l.length<=12)(h:Fin r):Fin (ko r k l):=by
 obtain⟨⟨h4,h5,h6,h7,h8,h9,h10,h11,h12⟩,h2,h3⟩:=h;unfold ko;split<;>exact⟨⟨by first|assumption|(simp only;omega),by first|assumption|(simp only;omega),by first|assumption|(simp only;omega),by first|assumption|(simp only;omega),by first|assumption|(simp only;omega),by first|assumption|(simp only;omega),by first|assumption|(simp only;omega),by first|assumption|(simp only;omega),by first|assumption|(simp only;omega)⟩,h2,h3⟩
theorem Rk{r:Ru}{l:List Dn}(hl:l.length<=12)(h:Fin r):Fin {r with l7:=l }:=by
 obtain⟨⟨h4,h5,h6,h7,h8,h9,h10,h11,h12⟩,h2,h3⟩:=h;exact⟨⟨h4,h5,h6,by simp only;omega,h8,h9,h10,h11,h12⟩,h2,h3⟩
def Ok:RuR->IV
 |.no e p=>.tuple [Oa.iv,cS e p]
 |.ok r=>.tuple [r.iv,.nili]
def OO(was:List Nat):List SV:=(List.range 14).map fun j=>.val (.bool (decide (j∈was)))
theorem BB(was:List Nat){k:Nat}(h:k<14):(OO was)[k]?=some (.val (.bool (decide (k∈was)))):=by simp[OO,h]
theorem BC(was:List Nat):(OO was).length=14:=by simp[OO]
theorem TA(was:List Nat){k:Nat}(h:k<14):(OO was).set k (.val (.bool true))=OO (k::was):=by
 apply List.ext_getElem?;intro j;by_cases hj:j=k
 ·subst hj;simp[OO,h]
 ·have:¬k=j:=fun e=>hj e.symm
  rw[List.getElem?_set_ne this];by_cases hj2:j<14
  ·rw[BB was hj2,BB _ hj2];simp[hj]
  ·rw[List.getElem?_eq_none (by rw[BC];omega),List.getElem?_eq_none (by rw[BC];omega)]
theorem TB:OO []=Tq:=by rfl
end Go.Vs.YtcjeehebikeghaaGreatDoor.Rc
namespace Go.Vs.YtcjeehebikeghaaGreatDoor.Rc
open Go Go.Vs Go.Proofs
def JW:SV->SV
 |.nils=>.val (.slice [])
 |x=>x
theorem Gq{w:World}{S:aO}{μ:Nat->Value}{objs:List (Nat×Ob)} : ∀ {cells:List SV} {l:List Value},aj w S μ objs cells l->aj w S μ objs (cells.map JW) l
 |[],l,h=>h
 |x::r,l,⟨v,t,e,h1,h2,h3⟩=>by
  refine⟨v,t,e,h1,?_,Gq h3⟩;cases x with
  |nils=>
   obtain⟨a,rfl⟩:∃a,v=.slice a 0 0:=h2;exact⟨a,0,rfl,by first|exact Nat.le_refl _|trivial|simp,by simp⟩
  |_=>exact h2
theorem Gr{σ:St}{d:Nat}{cells:List SV}(hl:ac σ.objs d=some (.box cells))(hro:σ.ro.contains d=false):cR σ {σ with objs:=put σ.objs d (.box (cells.map JW)) }:=by
 rintro w0 S0 M a w ⟨S,μ,β,h⟩;obtain⟨b,vs,e',fr,hb,hmu,hheap,hfr,hcs⟩:=h.objs d _ hl
 have h2:=h.write (id:=d) (x':=.box (cells.map JW)) (w':=w) hl hb (vs:=vs) (e:=e') (fr:=fr) ⟨rfl,rfl,rfl,rfl,fun _ _=>rfl,hheap,fun _ _ h=>h⟩ (by
  intro hc;have:σ.ro.contains d=true:=by simpa using hc
  rw[this]at hro;cases hro) (.inl ⟨_,_,rfl,rfl⟩) ⟨b,vs,e',fr,rfl,hmu,hheap,hfr,Gq hcs⟩
 exact⟨S,_,_,h2⟩
end Go.Vs.YtcjeehebikeghaaGreatDoor.Rc
namespace Go.Vs.YtcjeehebikeghaaGreatDoor.Rc
open Go.Proofs Go.Vs.U8 Go.Vs.Pa Go.Vs.Cv Go.Vs.Mo Go.Vs.Nu Go.Lib
def bz:List SV:=[.val (.int .u8 0),.val (.int .i64 0),.val (.int .i64 0),.val (.int .u8 0),.val (.int .i64 0),.nils,.nils,.nils,.nils,.nils,.nils,.nils,.nils,.nils,.val (.int .i64 0)]
theorem rD:Oa.iv=.agg [.int .u8 0,.int .i64 0,.int .i64 0,.int .u8 0,.int .i64 0,.slice [],.slice [],.slice [],.slice [],.slice [],.slice [],.slice [],.slice [],.slice [],.int .i64 0]:=rfl
theorem TC(was:List Nat){k:Nat}(h:k<14):(OO was).take k++.val (.bool true)::(OO was).drop (k+1)=OO (k::was):=by
 rw[<-TA was h,List.set_eq_take_append_cons_drop,if_pos (by rw[BC];exact h)]
theorem BD(x:Ru):qi [(1000,4)] (ef x)=ef x:=rfl
theorem Rm(x:Str)(h:rX.idxOf x<rX.length):Lm rX x=(rX.idxOf x:Nat):=Mm h (List.getElem_idxOf h) (fun hm'=>by
 rw[List.mem_take_iff_getElem]at hm';obtain⟨j,hj,e⟩:=hm';have:=List.not_of_lt_findIdx (p:=(· == x)) (xs:=rX) (i:=j) (by show j<rX.idxOf x;omega)
 simp[e]at this)
structure PSt where
 i:Nat
 a:Nat
 was:List Nat
 r:Ru
theorem Lx(s:Str)(hs:s.length<90000):Fn G2 T_ 152 [.str s] (Ok (pg s)):=by
 refine ag hm Dt (by simp) ?_;have hSp:=up (sY s 59 (by omega));obtain⟨R,hR⟩:∃R,pg s=R:=⟨_,rfl⟩;rw[hR];unfold pg at hR;have hsum:=Gh 59 s.length s (Nat.le_refl _);obtain⟨P,hP⟩:∃P,parts 59 s=P:=⟨_,rfl⟩;rw[hP]at hR hSp hsum
 have hPl:P.length<=s.length+1:=by
  have:∀l:List Str,l.length<=Od l:=fun l=>by
   induction l with
   |nil=>simp
   |cons x l ih=>rw[zQ,List.length_cons];omega
  have:=this P;omega
 simp[vV,Tq];refine aa hSp ?_;simp(disch:=omega)[wl,bE]
 refine J6 hm (fun x:PSt=>⟨[(21,.val (.int .i64 x.i)),(20,.val (.int .i64 P.length)),(19,.val (.slice (ts P))),(6,.val (.int .i64 x.a)),(5,.loc 5 0),(4,.loc 4 0),(3,.val .nili),(2,.loc 2 0),(0,.val (.str s))],[(5,.box (OO x.was)),(4,.box (ef x.r)),(2,.box bz)],[],107,G2⟩)
  (fun x=>x.i<=P.length/\x.a+Od (P.drop x.i)=s.length+1/\jM s.length (P.drop x.i) x.a x.was x.r=R/\Fin x.r) (fun x=>P.length-x.i) ⟨0,0,[],Th⟩ ⟨by simp,by simpa using hsum,by simpa using hR,⟨by simp[zT,Th],by simp[Th],by simp[Th]⟩⟩ ?_ (fun _=>rfl) ?_
 ·exact cR.trans (Gr (d:=4) rfl rfl) (ap rfl rfl (by simp[bp,aC,ac]) (by simp[ch,ac,put,ef,JW,Th,TB,Tq,bz,is,zK]) (by simp[cg]))
 rintro⟨i,a,was,r⟩ ⟨h1,h2,h3,h4⟩;simp only at h1 h2 h3 h4;simp[bz];by_cases h:i<P.length
 ·obtain⟨p,hp⟩:∃p,P[i]=p:=⟨_,rfl⟩;have hg:=rg h hp;rw[List.drop_eq_getElem_cons h,hp]at h2 h3;rw[zQ]at h2;have hC:=VA p (by omega);unfold R5 at hC;by_cases h61:(61:UInt8)∈p
  ·rw[if_pos h61]at hC;have hlt:=List.idxOf_lt_length_iff.2 h61;have hO:=Gp (p.take (p.idxOf 61));simp only[jM]at h3;rw[if_neg (by simpa using h61)]at h3;have hN:p.take (p.idxOf 61)=yh p:=rfl;have hV:p.drop (p.idxOf 61+1)=qz p:=rfl;rw[hN]at hC hO;rw[hV]at hC;have hnl:(yh p).length=p.idxOf 61:=by rw[<-hN,List.length_take];omega
   obtain⟨I,hI⟩:∃I,p.idxOf 61=I:=⟨_,rfl⟩;rw[hI]at hnl hlt;have hvl:(qz p).length<1000000:=by rw[<-hV,List.length_drop];omega
   simp(disch:=omega)[wl,bE,hg];refine aa hC ?_;simp(disch:=omega)[wl];refine aa hO ?_;by_cases hk:Dm p<14
   ·have hix:Lm rX (yh p)=(Dm p:Nat):=Rm _ hk;rw[if_neg (by omega)]at h3;obtain⟨k,hkk⟩:∃k,Dm p=k:=⟨_,rfl⟩;rw[hix,hkk];rw[hkk]at h3 hk;have hwk:=BB was hk;have hws:=TC was hk;simp(disch:=omega)[wl,hwk];by_cases hin:k∈was
    ·rw[if_pos hin]at h3;subst h3;have hNw:=up (fd 19 a);rw[if_neg (by omega)]at hNw;simp(disch:=omega)[wl,hin];refine⟨by omega,?_⟩;refine aa hNw ?_;simp(disch:=omega)[wl,Ok,rD]
    ·rw[if_neg hin]at h3;have hwl:=BC was;simp(disch:=omega)[wl,hin,hws];refine⟨by omega,by omega,?_⟩;by_cases hl4:4<=k
     ·by_cases hl12:k<=12
      ·have hin':k∈dj:=by simp[dj];omega
       by_cases h7:k=7
       ·subst h7;rw[Uv]at h3;have hM:=HO r (qz p) hvl;obtain⟨E,hE⟩:∃E,dC y6 (qz p)=E:=⟨_,rfl⟩;rw[hE]at hM h3;simp(disch:=omega)[wl];refine callM [(1000,4)] [] hM rfl rfl ⟨rfl,trivial⟩ ⟨rfl,[],[],rfl,⟨[],[],rfl,rfl,rfl⟩,rfl⟩ rfl ?_;cases E with
        |ok l=>
         have hl12:=rC hE;simp only at h3;simp(disch:=omega)[wl,u3,x7];refine au ⟨i+1,a+p.length+1,7::was,{r with l7:=l }⟩ ⟨by simp only;omega,by simp only;omega,h3,Rk hl12 h4⟩ (by simp only;omega) ?_;simp[bz,BD];exact ap rfl rfl (by simp[bp,aC,ac];omega) (by simp[ch,ac]) (by simp[cg])
        |no e q=>
         simp only at h3;rw[hI]at h3;subst h3;have hIn:=up (Un e [(q:Int)] ((a:Int)+((yh p).length:Int)+1));simp only[cS]at hIn;simp(disch:=omega)[wl,u3,cS];refine aa hIn ?_;simp(disch:=omega)[wl,Ok,rD,cS,hnl]
       ·rw[Uu r k hin' h7]at h3;have hM:=HN r k hin' h7 (qz p) hvl;obtain⟨E,hE⟩:∃E,dC (eH 5 (JO k) (JP k) (Oc k)) (qz p)=E:=⟨_,rfl⟩;rw[hE]at hM h3;simp(disch:=omega)[wl];refine callM [(1000,4)] [] hM rfl rfl ⟨rfl,trivial⟩ ⟨rfl,[],[],rfl,⟨[],[],rfl,rfl,rfl⟩,rfl⟩ rfl ?_;cases E with
        |ok l=>
         have hl12:=rC hE;simp only at h3;simp(disch:=omega)[wl,u3,x7];refine au ⟨i+1,a+p.length+1,k::was,ko r k l⟩ ⟨by simp only;omega,by simp only;omega,h3,Rj hl12 h4⟩ (by simp only;omega) ?_;simp[bz,BD];exact ap rfl rfl (by simp[bp,aC,ac];omega) (by simp[ch,ac]) (by simp[cg])
        |no e q=>
         simp only at h3;rw[hI]at h3;subst h3;have hIn:=up (Un e [(q:Int)] ((a:Int)+((yh p).length:Int)+1));simp only[cS]at hIn;simp(disch:=omega)[wl,u3,cS];refine aa hIn ?_;simp(disch:=omega)[wl,Ok,rD,cS,hnl]
      ·skip;have hk5:k=0\/k=1\/k=2\/k=3\/k=13:=by omega
       rw[Rh r k hk5]at h3;have hM:=fnM_take r k hk5 (qz p) hvl;have hfin:=Lw k (qz p) h4;obtain⟨⟨r',e⟩,hT⟩:∃T,tkP r k (qz p)=T:=⟨_,rfl⟩;rw[hT]at hM h3 hfin;simp only at hM h3 hfin;simp(disch:=omega)[wl];refine callM [(1000,4)] [] hM rfl rfl ⟨rfl,trivial⟩ ⟨rfl,[],[],rfl,⟨[],[],rfl,rfl,rfl⟩,rfl⟩ rfl ?_;by_cases e0:e=0
       ·rw[if_pos e0]at h3;simp only at h3;subst e0;simp(disch:=omega)[wl,uP];refine au ⟨i+1,a+p.length+1,k::was,r'⟩ ⟨by simp only;omega,by simp only;omega,h3,hfin⟩ (by simp only;omega) ?_;simp[bz,BD];exact ap rfl rfl (by simp[bp,aC,ac];omega) (by simp[ch,ac]) (by simp[cg])
       ·rw[if_neg e0]at h3;simp only at h3;rw[hI]at h3;subst h3;have hCd:=up (uE e [0]);have hNw:=up (fd e ((a:Int)+((yh p).length:Int)+1));rw[if_neg e0]at hNw;simp only[cS]at hCd hNw;simp(disch:=omega)[wl,uP,e0,cS];refine aa hCd ?_;simp(disch:=omega)[wl];refine aa hNw ?_;simp(disch:=omega)[wl,Ok,rD,cS,hnl]
     ·skip;have hk5:k=0\/k=1\/k=2\/k=3\/k=13:=by omega
      rw[Rh r k hk5]at h3;have hM:=fnM_take r k hk5 (qz p) hvl;have hfin:=Lw k (qz p) h4;obtain⟨⟨r',e⟩,hT⟩:∃T,tkP r k (qz p)=T:=⟨_,rfl⟩;rw[hT]at hM h3 hfin;simp only at hM h3 hfin;simp(disch:=omega)[wl];refine callM [(1000,4)] [] hM rfl rfl ⟨rfl,trivial⟩ ⟨rfl,[],[],rfl,⟨[],[],rfl,rfl,rfl⟩,rfl⟩ rfl ?_;by_cases e0:e=0
      ·rw[if_pos e0]at h3;simp only at h3;subst e0;simp(disch:=omega)[wl,uP];refine au ⟨i+1,a+p.length+1,k::was,r'⟩ ⟨by simp only;omega,by simp only;omega,h3,hfin⟩ (by simp only;omega) ?_;simp[bz,BD];exact ap rfl rfl (by simp[bp,aC,ac];omega) (by simp[ch,ac]) (by simp[cg])
      ·rw[if_neg e0]at h3;simp only at h3;rw[hI]at h3;subst h3;have hCd:=up (uE e [0]);have hNw:=up (fd e ((a:Int)+((yh p).length:Int)+1));rw[if_neg e0]at hNw;simp only[cS]at hCd hNw;simp(disch:=omega)[wl,uP,e0,cS];refine aa hCd ?_;simp(disch:=omega)[wl];refine aa hNw ?_;simp(disch:=omega)[wl,Ok,rD,cS,hnl]
   ·have hix:Lm rX (yh p) = -1:=Mn (fun hm'=>hk (List.idxOf_lt_length_iff.2 hm'));rw[if_pos (by omega)]at h3;subst h3;rw[hix];have hNw:=up (fd 11 a);rw[if_neg (by omega)]at hNw;simp(disch:=omega)[wl];refine aa hNw ?_;simp(disch:=omega)[wl,Ok,rD]
  ·rw[if_neg h61]at hC;have hO:=Gp p;simp only[jM]at h3;rw[if_pos h61]at h3;subst h3;have hNw:=up (fd 4 a);rw[if_neg (by omega)]at hNw;simp(disch:=omega)[wl,bE,hg];refine aa hC ?_;simp(disch:=omega)[wl];refine aa hO ?_;simp(disch:=omega)[wl];refine aa hNw ?_;simp(disch:=omega)[wl,Ok,rD]
 ·obtain rfl:i=P.length:=by omega
  rw[List.drop_length]at h3;simp only[jM,Ti]at h3;have hC:=zU r h4.1 h4.2.1;have hw0:=BB was (k:=0) (by omega);obtain⟨e,he⟩:∃e,mJ r=e:=⟨_,rfl⟩;rw[he]at hC h3;unfold Ru.iv cells at hC;simp(disch:=omega)[wl,bE,hw0];by_cases c0:0∈was
  ·rw[if_pos c0]at h3;simp(disch:=omega)[wl,c0,ef];refine aa hC ?_;by_cases e0:e=0
   ·rw[if_pos e0]at h3;subst h3;simp(disch:=omega)[wl,e0,Ok,Ru.iv,cells]
   ·rw[if_neg e0]at h3;subst h3;have hNw:=up (fd e s.length);rw[if_neg e0]at hNw;simp(disch:=omega)[wl,e0];refine aa hNw ?_;simp(disch:=omega)[wl,Ok,rD]
  ·rw[if_neg c0]at h3;subst h3;have hNw:=up (fd 6 s.length);rw[if_neg (by omega)]at hNw;simp(disch:=omega)[wl,c0];refine aa hNw ?_;simp(disch:=omega)[wl,Ok,rD]
end Go.Vs.YtcjeehebikeghaaGreatDoor.Rc
