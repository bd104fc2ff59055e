/- The walk of recur: a part's value is put into a rule. No conditions. -/
import Derived.Test.YtcjeehebikeghaaGreatDoorRQ
set_option linter.unusedVariables false
set_option linter.unusedSimpArgs false
set_option maxRecDepth 100000
set_option maxHeartbeats 64000000
namespace Go.Vs.YtcjeehebikeghaaGreatDoor.Rc
open Go.Proofs Go.Vs.U8 Go.Vs.Pa Go.Vs.Cv Go.Vs.Mo Go.Vs.Nu Go.Lib
theorem SJ(r:Ru)(k:Nat)(h:k∈cE)(h7:k≠7):oe G2 Tryz.prog cp
  {args:=[.loc 1000 0,.val (.int .i64 k)],objs:=[(1000,.box (eR r))],res:=.loc 1000 (k+1),objs':=[(1000,.box (eR r))],ro':=[] }:=by
 refine bA hm jw (by simp) rfl ?_;simp[fW,fX,og,eR];rcases k8 h h7 with rfl|rfl|rfl|rfl|rfl|rfl|rfl|rfl <;>
 ·simp(disch:=omega)[wl];simp[cQ];exact⟨⟨[(4,.loc 1000 _)],[(1000,.box (eR r))],[],44,G2⟩,ap rfl rfl (by simp[bv,aC,ac]) (by simp[cC,ac,eR]) (by simp[ct]),by simp[eR],[],rfl,rfl,rfl⟩
def yY{α:Type} : GotE α→List α
 |.ok l=>l
 |.no _ _=>[]
def wb{α:Type} : GotE α→IV
 |.ok _=>.nili
 |.no e p=>dp e [(p:Int)]
theorem Y3(R:GotE Dn):CX R=.tuple [.slice (vu (yY R)),wb R]:=by cases R<;>rfl
theorem Y4(R:GotE Int):CW R=.tuple [.slice (is (yY R)),wb R]:=by cases R<;>rfl
theorem Lu(r:Ru)(k:Nat)(h:k∈cE)(h7:k≠7)(v:Str)(hv:v.length<1000000):oe G2 Tryz.prog dj
  {args:=[.loc 1000 0,.val (.int .i64 k),.val (.str v)],objs:=[(1000,.box (eR r))],res:=.val (wb (dW (dU 5 (O0 k) (O1 k) (SA k)) v)),objs':=[(1000,.box (eR (lA r k (yY (dW (dU 5 (O0 k) (O1 k) (SA k)) v)))))],ro':=[] }:=by
 refine bA hm ic (by simp) rfl ?_;have hW:=fn_within k (by simp[cE]at h;omega);have hL:=up (XJ (O0 k) (O1 k) (SA k) v hv);rw[Y4]at hL;obtain⟨R,hR⟩:∃R,dW (dU 5 (O0 k) (O1 k) (SA k)) v=R:=⟨_,rfl⟩;rw[hR]at hL ⊢;have hM:=SJ r k h h7;unfold wiI at hW;simp[ek,eo,og];simp(disch:=omega)[wl,h7];refine aa hW ?_;simp(disch:=omega)[wl];refine aa hL ?_;simp(disch:=omega)[wl];refine callM [] [] hM rfl rfl ⟨rfl,trivial⟩ ⟨rfl,[],[],rfl,rfl,rfl⟩ rfl ?_;rcases k8 h h7 with rfl|rfl|rfl|rfl|rfl|rfl|rfl|rfl
 ·simp(disch:=omega)[wl,eR];simp[cQ];exact⟨⟨[(6,.val (wb R))],[(1000,.box (eR (lA r 4 (yY R))))],[],43,G2⟩,ap rfl rfl (by simp[bv,aC,ac]) (by simp[cC,ac,eR,lA]) (by simp[ct]),by simp[eR,lA],[],rfl,rfl,rfl⟩
 ·simp(disch:=omega)[wl,eR];simp[cQ];exact⟨⟨[(6,.val (wb R))],[(1000,.box (eR (lA r 5 (yY R))))],[],43,G2⟩,ap rfl rfl (by simp[bv,aC,ac]) (by simp[cC,ac,eR,lA]) (by simp[ct]),by simp[eR,lA],[],rfl,rfl,rfl⟩
 ·simp(disch:=omega)[wl,eR];simp[cQ];exact⟨⟨[(6,.val (wb R))],[(1000,.box (eR (lA r 6 (yY R))))],[],43,G2⟩,ap rfl rfl (by simp[bv,aC,ac]) (by simp[cC,ac,eR,lA]) (by simp[ct]),by simp[eR,lA],[],rfl,rfl,rfl⟩
 ·simp(disch:=omega)[wl,eR];simp[cQ];exact⟨⟨[(6,.val (wb R))],[(1000,.box (eR (lA r 8 (yY R))))],[],43,G2⟩,ap rfl rfl (by simp[bv,aC,ac]) (by simp[cC,ac,eR,lA]) (by simp[ct]),by simp[eR,lA],[],rfl,rfl,rfl⟩
 ·simp(disch:=omega)[wl,eR];simp[cQ];exact⟨⟨[(6,.val (wb R))],[(1000,.box (eR (lA r 9 (yY R))))],[],43,G2⟩,ap rfl rfl (by simp[bv,aC,ac]) (by simp[cC,ac,eR,lA]) (by simp[ct]),by simp[eR,lA],[],rfl,rfl,rfl⟩
 ·simp(disch:=omega)[wl,eR];simp[cQ];exact⟨⟨[(6,.val (wb R))],[(1000,.box (eR (lA r 10 (yY R))))],[],43,G2⟩,ap rfl rfl (by simp[bv,aC,ac]) (by simp[cC,ac,eR,lA]) (by simp[ct]),by simp[eR,lA],[],rfl,rfl,rfl⟩
 ·simp(disch:=omega)[wl,eR];simp[cQ];exact⟨⟨[(6,.val (wb R))],[(1000,.box (eR (lA r 11 (yY R))))],[],43,G2⟩,ap rfl rfl (by simp[bv,aC,ac]) (by simp[cC,ac,eR,lA]) (by simp[ct]),by simp[eR,lA],[],rfl,rfl,rfl⟩
 ·simp(disch:=omega)[wl,eR];simp[cQ];exact⟨⟨[(6,.val (wb R))],[(1000,.box (eR (lA r 12 (yY R))))],[],43,G2⟩,ap rfl rfl (by simp[bv,aC,ac]) (by simp[cC,ac,eR,lA]) (by simp[ct]),by simp[eR,lA],[],rfl,rfl,rfl⟩
theorem Lv(r:Ru)(v:Str)(hv:v.length<1000000):oe G2 Tryz.prog dj
  {args:=[.loc 1000 0,.val (.int .i64 7),.val (.str v)],objs:=[(1000,.box (eR r))],res:=.val (wb (dW Af v)),objs':=[(1000,.box (eR {r with l7:=yY (dW Af v) }))],ro':=[] }:=by
 refine bA hm ic (by simp) rfl ?_;have hL:=up (XK v hv);rw[Y3]at hL;obtain⟨R,hR⟩:∃R,dW Af v=R:=⟨_,rfl⟩;rw[hR]at hL ⊢;simp[ek,eo,og];refine aa hL ?_;simp(disch:=omega)[wl,eR];simp[cQ];exact⟨⟨[(6,.val (wb R))],[(1000,.box (eR {r with l7:=yY R }))],[],43,G2⟩,ap rfl rfl (by simp[bv,aC,ac]) (by simp[cC,ac,eR]) (by simp[ct]),by simp[eR],[],rfl,rfl,rfl⟩
def frP(v:Str):Nat:=min (vG.idxOf v) 6
def tkP(r:Ru)(k:Nat)(v:Str):Ru×Int:=
 if k=0 then ({r with f:=(frP v:Nat) },if vG.idxOf v<7 then 0 else 11)
 else if k=1 then ({r with u:=(i7 v).1 },(i7 v).2)
 else if k=2 then ({r with c:=(dU 5 1 1000 false v).1 },(dU 5 1 1000 false v).2)
 else if k=3 then ({r with i:=(dU 5 1 1000 false v).1 },(dU 5 1 1000 false v).2)
 else ({r with w:=HI v },if HI v<0 then 4 else 0)
def wX(e:Int):IV:=if e=0 then .nili else dp e [0]
theorem Y5{v:Str}{k:Nat}(h:k<vG.idxOf v)(hk:k≤6):¬D7 k=v:=fun e=>by
 have:=List.not_of_lt_findIdx (p:=(· == v)) (xs:=vG) (i:=k) h;subst e;rcases k7 hk with rfl|rfl|rfl|rfl|rfl|rfl|rfl<;>exact Bool.noConfusion (show true=false from this)
theorem fnM_take(r:Ru)(k:Nat)(hk:k=0∨k=1∨k=2∨k=3∨k=13)(v:Str)(hv:v.length<1000000):oe G2 Tryz.prog fS
  {args:=[.loc 1000 0,.val (.int .i64 k),.val (.str v)],objs:=[(1000,.box (eR r))],res:=.val (wX (tkP r k v).2),objs':=[(1000,.box (eR (tkP r k v).1))],ro':=[] }:=by
 refine bA hm pR (by simp) rfl ?_;obtain⟨⟨r',e⟩,hT⟩:∃p,tkP r k v=p:=⟨_,rfl⟩;rw[hT];have hN:=up (fQ e 0);have hNe:(if e=0 then IV.nili else dp e [0])=wX e:=rfl;rw[hNe]at hN;simp[jS,jT,og];rcases hk with rfl|rfl|rfl|rfl|rfl
 ·simp only[tkP]at hT;rw[if_pos trivial]at hT;obtain⟨X,hX⟩:∃X,vG.idxOf v=X:=⟨_,rfl⟩;have hX7:X≤7:=by rw[←hX];exact List.idxOf_le_length
  have hfr:frP v=min X 6:=by unfold frP;rw[hX]
  have hXv:X<7→D7 X=v:=fun h=>by
   have h1:vG.idxOf v<vG.length:=by rw[hX];exact h
   have h2:=List.getElem_idxOf h1;unfold D7;rw[List.getD_eq_getElem?_getD,←hX,List.getElem?_eq_getElem h1,h2];rfl
  have hlt:∀i,i<X→i≤6→¬D7 i=v:=fun i h1 h2=>Y5 (by rw[hX];exact h1) h2
  rw[hX,hfr]at hT;obtain⟨Y,hY⟩:∃Y,min X 6=Y:=⟨_,rfl⟩;rw[hY]at hT;obtain⟨rfl,he⟩:=Prod.mk.inj hT;simp(disch:=omega)[wl,eR];refine bS hm [] (fun _:Nat=>[]) (fun i=>[(1000,.box (eR {r with f:=(i:Nat) }))]) (fun i=>i≤min X 6) (fun i=>6-i) 0 (by omega) ?_ ?_
  ·simp[eR];exact bT
  intro i hi;have hWd:=XY i (by omega);simp[eR];have hend:∀A B C:Prop,A→B→C→A∧B∧C:=fun _ _ _ a b c=>⟨a,b,c⟩
  by_cases h6:i<6
  ·simp(disch:=omega)[wl,h6];refine aa hWd ?_;by_cases hx:i=X
   ·have hw:D7 i=v:=by rw[hx];exact hXv (by omega)
    obtain rfl:i=Y:=by omega
    rw[if_pos (by omega)]at he;subst he;simp(disch:=omega)[wl,hw];rw[hw]at hWd;refine aa hWd ?_;simp(disch:=omega)[wl];refine aa hN ?_;simp(disch:=omega)[wl];simp[cQ];exact⟨⟨[(6,.val (wX 0))],[(1000,.box (eR {r with f:=((i:Nat):Int) }))],[],91,G2⟩,ap rfl rfl (by simp[bv,aC,ac]) (by simp[cC,ac,eR]) (by simp[ct]),by simp[eR],[],rfl,rfl,rfl⟩
   ·have hne:=hlt i (by omega) (by omega);simp(disch:=omega)[wl,hne];refine aq (i+1) (by omega) (by omega) ?_;simp[eR];exact bT
  ·obtain rfl:i=6:=by omega
   simp(disch:=omega)[wl];refine aa hWd ?_;by_cases hx:X=6
   ·obtain rfl:6=Y:=by omega
    have hw:D7 6=v:=by have:=hXv (by omega);rwa[hx]at this
    rw[if_pos (by omega)]at he;subst he;simp(disch:=omega)[wl,hw];refine aa hN ?_;simp(disch:=omega)[wl];simp[cQ];exact⟨⟨[(6,.val (wX 0))],[(1000,.box (eR {r with f:=((6:Nat):Int) }))],[],91,G2⟩,ap rfl rfl (by simp[bv,aC,ac]) (by simp[cC,ac,eR]) (by simp[ct]),by simp[eR],[],rfl,rfl,rfl⟩
   ·obtain rfl:6=Y:=by omega
    have hne:=hlt 6 (by omega) (by omega);rw[if_neg (by omega)]at he;subst he;simp(disch:=omega)[wl,hne];refine aa hN ?_;simp(disch:=omega)[wl];simp[cQ];exact⟨⟨[(6,.val (wX 11))],[(1000,.box (eR {r with f:=((6:Nat):Int) }))],[],91,G2⟩,ap rfl rfl (by simp[bv,aC,ac]) (by simp[cC,ac,eR]) (by simp[ct]),by simp[eR],[],rfl,rfl,rfl⟩
 ·have hP:=wP v hv;simp only[tkP]at hT;rw[if_neg (by omega),if_pos trivial]at hT;obtain⟨P,hP'⟩:∃P,i7 v=P:=⟨_,rfl⟩;rw[hP']at hP hT;obtain⟨rfl,rfl⟩:=Prod.mk.inj hT;unfold n9 at hP;simp(disch:=omega)[wl];refine aa hP ?_;simp(disch:=omega)[wl,eR];refine aa hN ?_;simp(disch:=omega)[wl];simp[cQ];exact⟨⟨[(6,.val (wX P.2))],[(1000,.box (eR {r with u:=P.1 }))],[],91,G2⟩,ap rfl rfl (by simp[bv,aC,ac]) (by simp[cC,ac,eR]) (by simp[ct]),by simp[eR],[],rfl,rfl,rfl⟩
 ·have hP:=up (E4 1 1000 false v hv);simp only[tkP]at hT;rw[if_neg (by omega),if_neg (by omega),if_pos trivial]at hT;obtain⟨P,hP'⟩:∃P,dU 5 1 1000 false v=P:=⟨_,rfl⟩;rw[hP']at hP hT;obtain⟨rfl,rfl⟩:=Prod.mk.inj hT;unfold Sp at hP;simp(disch:=omega)[wl];refine aa hP ?_;by_cases h0:P.2=0
  ·rw[if_pos h0];rw[h0]at hN;simp(disch:=omega)[wl,eR];refine aa (up CP) ?_;simp(disch:=omega)[wl];refine aa hN ?_;simp(disch:=omega)[wl];simp[cQ];exact⟨⟨[(6,.val (wX P.2))],[(1000,.box (eR {r with c:=P.1 }))],[],91,G2⟩,ap rfl rfl (by simp[bv,aC,ac,h0]) (by simp[cC,ac,eR]) (by simp[ct]),by simp[eR],[],rfl,rfl,rfl⟩
  ·rw[if_neg h0];simp(disch:=omega)[wl,eR];refine aa (up (wJ P.2 [0])) ?_;simp(disch:=omega)[wl];refine aa hN ?_;simp(disch:=omega)[wl];simp[cQ];exact⟨⟨[(6,.val (wX P.2))],[(1000,.box (eR {r with c:=P.1 }))],[],91,G2⟩,ap rfl rfl (by simp[bv,aC,ac]) (by simp[cC,ac,eR]) (by simp[ct]),by simp[eR],[],rfl,rfl,rfl⟩
 ·have hP:=up (E4 1 1000 false v hv);simp only[tkP]at hT;rw[if_neg (by omega),if_neg (by omega),if_neg (by omega),if_pos trivial]at hT;obtain⟨P,hP'⟩:∃P,dU 5 1 1000 false v=P:=⟨_,rfl⟩;rw[hP']at hP hT;obtain⟨rfl,rfl⟩:=Prod.mk.inj hT;unfold Sp at hP;simp(disch:=omega)[wl];refine aa hP ?_;by_cases h0:P.2=0
  ·rw[if_pos h0];rw[h0]at hN;simp(disch:=omega)[wl,eR];refine aa (up CP) ?_;simp(disch:=omega)[wl];refine aa hN ?_;simp(disch:=omega)[wl];simp[cQ];exact⟨⟨[(6,.val (wX P.2))],[(1000,.box (eR {r with i:=P.1 }))],[],91,G2⟩,ap rfl rfl (by simp[bv,aC,ac,h0]) (by simp[cC,ac,eR]) (by simp[ct]),by simp[eR],[],rfl,rfl,rfl⟩
  ·rw[if_neg h0];simp(disch:=omega)[wl,eR];refine aa (up (wJ P.2 [0])) ?_;simp(disch:=omega)[wl];refine aa hN ?_;simp(disch:=omega)[wl];simp[cQ];exact⟨⟨[(6,.val (wX P.2))],[(1000,.box (eR {r with i:=P.1 }))],[],91,G2⟩,ap rfl rfl (by simp[bv,aC,ac]) (by simp[cC,ac,eR]) (by simp[ct]),by simp[eR],[],rfl,rfl,rfl⟩
 ·have hP:=up (FG v);simp only[tkP]at hT;rw[if_neg (by omega),if_neg (by omega),if_neg (by omega),if_neg (by omega)]at hT;obtain⟨P,hP'⟩:∃P,HI v=P:=⟨_,rfl⟩;rw[hP']at hP hT;obtain⟨rfl,he⟩:=Prod.mk.inj hT;simp(disch:=omega)[wl];refine aa hP ?_;by_cases h0:P<0
  ·rw[if_pos h0]at he;subst he;simp(disch:=omega)[wl,eR,h0];refine aa hN ?_;simp(disch:=omega)[wl];simp[cQ];exact⟨⟨[(6,.val (wX 4))],[(1000,.box (eR {r with w:=P }))],[],91,G2⟩,ap rfl rfl (by simp[bv,aC,ac]) (by simp[cC,ac,eR]) (by simp[ct]),by simp[eR],[],rfl,rfl,rfl⟩
  ·rw[if_neg h0]at he;subst he;simp(disch:=omega)[wl,eR,h0];refine aa hN ?_;simp(disch:=omega)[wl];simp[cQ];exact⟨⟨[(6,.val (wX 0))],[(1000,.box (eR {r with w:=P }))],[],91,G2⟩,ap rfl rfl (by simp[bv,aC,ac]) (by simp[cC,ac,eR]) (by simp[ct]),by simp[eR],[],rfl,rfl,rfl⟩
theorem Dg{α:Type} [DecidableEq α]{one:Str→α×Int} : ∀ {L:List Str} {a:Nat} {out l:List α},lV one L a out=.ok l→out.length≤12→l.length≤12
 |[],a,out,l,h,ho=>by simp only[lV,GotE.ok.injEq]at h;rw[←h];exact ho
 |x::r,a,out,l,h,ho=>by
  simp only[lV]at h;split at h
  ·cases h
  ·split at h
   ·cases h
   ·split at h
    ·cases h
    ·exact Dg h (by simp;omega)
theorem tH{α:Type} [DecidableEq α]{one:Str→α×Int}{s:Str}{l:List α}(h:dW one s=.ok l):l.length≤12:=Dg h (by simp)
theorem VO(r:Ru)(k:Nat)(hk:k=0∨k=1∨k=2∨k=3∨k=13)(v:Str):D8 r k v=if (tkP r k v).2=0 then .ok (tkP r k v).1 else .no (tkP r k v).2 []:=by
 rcases hk with rfl|rfl|rfl|rfl|rfl
 ·simp only[D8,tkP,frP,if_true];by_cases h:vG.idxOf v<7
  ·rw[if_pos h,if_pos h,if_pos rfl];congr 2;omega
  ·rw[if_neg h,if_neg h,if_neg (by decide)]
 ·rfl
 ·rfl
 ·rfl
 ·show(if HI v<0 then TkR.no 4 []else .ok {r with w:=HI v })=if (if HI v<0 then (4:Int)else 0)=0 then .ok {r with w:=HI v } else .no (if HI v<0 then (4:Int)else 0) []
  by_cases h:HI v<0
  ·rw[if_pos h,if_pos h,if_neg (by decide)]
  ·rw[if_neg h,if_neg h,if_pos rfl]
theorem Z2(r:Ru)(k:Nat)(h:k∈cE)(h7:k≠7)(v:Str):D8 r k v=match dW (dU 5 (O0 k) (O1 k) (SA k)) v with
  |.ok l=>.ok (lA r k l)
  |.no e p=>.no e [(p:Int)]:=by
 unfold D8;have:=k8 h h7;rw[if_neg (by omega),if_neg (by omega),if_neg (by omega),if_neg (by omega),if_neg (by omega),if_neg (by omega)];cases dW (dU 5 (O0 k) (O1 k) (SA k)) v<;>rfl
theorem Z3(r:Ru)(v:Str):D8 r 7 v=match dW Af v with
  |.ok l=>.ok {r with l7:=l }
  |.no e p=>.no e [(p:Int)]:=by
 unfold D8;rw[if_neg (by omega),if_neg (by omega),if_neg (by omega),if_neg (by omega),if_pos rfl];cases dW Af v<;>rfl
def Fin(r:Ru):Prop:=wa r∧0≤r.u.k∧0≤r.f
theorem VP(s:Str):0≤pM s:=by
 rcases yW s with⟨h,_⟩|⟨h,_⟩|⟨h,_⟩|⟨h,_⟩<;>omega
theorem aar(s:Str):0≤(i7 s).1.k:=by
 unfold i7;split
 ·simp
 ·split
  ·simp
  ·exact VP s
theorem PO{r:Ru}(k:Nat)(v:Str)(h:Fin r):Fin (tkP r k v).1:=by
 obtain⟨h1,h2,h3⟩:=h;unfold tkP;split
 ·exact⟨h1,h2,by simp⟩
 ·split
  ·exact⟨h1,aar v,h3⟩
  ·split
   ·exact⟨h1,h2,h3⟩
   ·split
    ·exact⟨h1,h2,h3⟩
    ·exact⟨h1,h2,h3⟩
theorem VQ{r:Ru}{k:Nat}{l:List Int}(hl:l.length≤12)(h:Fin r):Fin (lA r k l):=by
 obtain⟨⟨h4,h5,h6,h7,h8,h9,h10,h11,h12⟩,h2,h3⟩:=h;unfold lA;split<;>exact⟨⟨by first|assumption|(simp only;omega),by first|assumption|(simp only;omega),by first|assumption|(simp only;omega),by first|assumption|(simp only;omega),by first|assumption|(simp only;omega),by first|assumption|(simp only;omega),by first|assumption|(simp only;omega),by first|assumption|(simp only;omega),by first|assumption|(simp only;omega)⟩,h2,h3⟩
theorem VR{r:Ru}{l:List Dn}(hl:l.length≤12)(h:Fin r):Fin {r with l7:=l }:=by
 obtain⟨⟨h4,h5,h6,h7,h8,h9,h10,h11,h12⟩,h2,h3⟩:=h;exact⟨⟨h4,h5,h6,by simp only;omega,h8,h9,h10,h11,h12⟩,h2,h3⟩
def SK:RuR→IV
 |.no e p=>.tuple [OF.iv,dp e p]
 |.ok r=>.tuple [r.iv,.nili]
def Tc(was:List Nat):List SV:=(List.range 14).map fun j=>.val (.bool (decide (j∈was)))
theorem E5(was:List Nat){k:Nat}(h:k<14):(Tc was)[k]?=some (.val (.bool (decide (k∈was)))):=by simp[Tc,h]
theorem E6(was:List Nat):(Tc was).length=14:=by simp[Tc]
theorem Y6(was:List Nat){k:Nat}(h:k<14):(Tc was).set k (.val (.bool true))=Tc (k::was):=by
 apply List.ext_getElem?;intro j;by_cases hj:j=k
 ·subst hj;simp[Tc,h]
 ·have:¬k=j:=fun e=>hj e.symm
  rw[List.getElem?_set_ne this];by_cases hj2:j<14
  ·rw[E5 was hj2,E5 _ hj2];simp[hj]
  ·rw[List.getElem?_eq_none (by rw[E6];omega),List.getElem?_eq_none (by rw[E6];omega)]
theorem Y7:Tc []=XW:=by rfl
end Go.Vs.YtcjeehebikeghaaGreatDoor.Rc
namespace Go.Vs.YtcjeehebikeghaaGreatDoor.Rc
open Go Go.Vs Go.Proofs
def O8:SV→SV
 |.nils=>.val (.slice [])
 |x=>x
theorem K3{w:World}{S:aK}{μ:Nat→Value}{objs:List (Nat×Ob)} : ∀ {cells:List SV} {l:List Value},aj w S μ objs cells l→aj w S μ objs (cells.map O8) l
 |[],l,h=>h
 |x::r,l,⟨v,t,e,h1,h2,h3⟩=>by
  refine⟨v,t,e,h1,?_,K3 h3⟩;cases x with
  |nils=>
   obtain⟨a,rfl⟩:∃a,v=.slice a 0 0:=h2;exact⟨a,0,rfl,by first|exact Nat.le_refl _|trivial|simp,by simp⟩
  |_=>exact h2
theorem K4{σ:St}{d:Nat}{cells:List SV}(hl:ac σ.objs d=some (.box cells))(hro:σ.ro.contains d=false):d5 σ {σ with objs:=put σ.objs d (.box (cells.map O8)) }:=by
 rintro w0 S0 M a w ⟨S,μ,β,h⟩;obtain⟨b,vs,e',fr,hb,hmu,hheap,hfr,hcs⟩:=h.objs d _ hl
 have h2:=h.write (id:=d) (x':=.box (cells.map O8)) (w':=w) hl hb (vs:=vs) (e:=e') (fr:=fr) ⟨rfl,rfl,rfl,rfl,fun _ _=>rfl,hheap,fun _ _ h=>h⟩ (by
  intro hc;have:σ.ro.contains d=true:=by simpa using hc
  rw[this]at hro;cases hro) (.inl ⟨_,_,rfl,rfl⟩) ⟨b,vs,e',fr,rfl,hmu,hheap,hfr,K3 hcs⟩
 exact⟨S,_,_,h2⟩
end Go.Vs.YtcjeehebikeghaaGreatDoor.Rc
namespace Go.Vs.YtcjeehebikeghaaGreatDoor.Rc
open Go.Proofs Go.Vs.U8 Go.Vs.Pa Go.Vs.Cv Go.Vs.Mo Go.Vs.Nu Go.Lib
def bz:List SV:=[.val (.int .u8 0),.val (.int .i64 0),.val (.int .i64 0),.val (.int .u8 0),.val (.int .i64 0),.nils,.nils,.nils,.nils,.nils,.nils,.nils,.nils,.nils,.val (.int .i64 0)]
theorem tI:OF.iv=.agg [.int .u8 0,.int .i64 0,.int .i64 0,.int .u8 0,.int .i64 0,.slice [],.slice [],.slice [],.slice [],.slice [],.slice [],.slice [],.slice [],.slice [],.int .i64 0]:=rfl
theorem Y8(was:List Nat){k:Nat}(h:k<14):(Tc was).take k++.val (.bool true)::(Tc was).drop (k+1)=Tc (k::was):=by
 rw[←Y6 was h,List.set_eq_take_append_cons_drop,if_pos (by rw[E6];exact h)]
theorem E7(x:Ru):rR [(1000,4)] (eR x)=eR x:=rfl
theorem VS(x:Str)(h:ub.idxOf x<ub.length):PG ub x=(ub.idxOf x:Nat):=QD h (List.getElem_idxOf h) (fun hm'=>by
 rw[List.mem_take_iff_getElem]at hm';obtain⟨j,hj,e⟩:=hm';have:=List.not_of_lt_findIdx (p:=(· == x)) (xs:=ub) (i:=j) (by show j<ub.idxOf x;omega)
 simp[e]at this)
structure PSt where
 i:Nat
 a:Nat
 was:List Nat
 r:Ru
theorem PP(s:Str)(hs:s.length<90000):Fn G2 Tryz.prog rz [.str s] (SK (qJ s)):=by
 refine ag hm G5 (by simp) ?_;have hSp:=up (v8 s 59 (by omega));obtain⟨R,hR⟩:∃R,qJ s=R:=⟨_,rfl⟩;rw[hR];unfold qJ at hR;have hsum:=JU 59 s.length s (Nat.le_refl _);obtain⟨P,hP⟩:∃P,parts 59 s=P:=⟨_,rfl⟩;rw[hP]at hR hSp hsum
 have hPl:P.length≤s.length+1:=by
  have:∀l:List Str,l.length≤SC l:=fun l=>by
   induction l with
   |nil=>simp
   |cons x l ih=>rw[C6,List.length_cons];omega
  have:=this P;omega
 simp[xY,xZ,XW];refine aa hSp ?_;simp(disch:=omega)[wl,bI]
 refine Na hm (fun x:PSt=>⟨[(21,.val (.int .i64 x.i)),(20,.val (.int .i64 P.length)),(19,.val (.slice (ts P))),(6,.val (.int .i64 x.a)),(5,.loc 5 0),(4,.loc 4 0),(3,.val .nili),(2,.loc 2 0),(0,.val (.str s))],[(5,.box (Tc x.was)),(4,.box (eR x.r)),(2,.box bz)],[],107,G2⟩)
  (fun x=>x.i≤P.length∧x.a+SC (P.drop x.i)=s.length+1∧kL s.length (P.drop x.i) x.a x.was x.r=R∧Fin x.r) (fun x=>P.length-x.i) ⟨0,0,[],XO⟩ ⟨by simp,by simpa using hsum,by simpa using hR,⟨by simp[wa,XO],by simp[XO],by simp[XO]⟩⟩ ?_ (fun _=>rfl) ?_
 ·exact d5.trans (K4 (d:=4) rfl rfl) (ap rfl rfl (by simp[bv,aC,ac]) (by simp[cC,ac,put,eR,O8,XO,Y7,XW,bz,is,vu]) (by simp[ct]))
 rintro⟨i,a,was,r⟩ ⟨h1,h2,h3,h4⟩;simp only at h1 h2 h3 h4;simp[bz];by_cases h:i<P.length
 ·obtain⟨p,hp⟩:∃p,P[i]=p:=⟨_,rfl⟩;have hg:=pC h hp;rw[List.drop_eq_getElem_cons h,hp]at h2 h3;rw[C6]at h2;have hC:=aao p (by omega);unfold VC at hC;by_cases h61:(61:UInt8)∈p
  ·rw[if_pos h61]at hC;have hlt:=List.idxOf_lt_length_iff.2 h61;have hO:=K2 (p.take (p.idxOf 61));simp only[kL]at h3;rw[if_neg (by simpa using h61)]at h3;have hN:p.take (p.idxOf 61)=Aw p:=rfl;have hV:p.drop (p.idxOf 61+1)=ss p:=rfl;rw[hN]at hC hO;rw[hV]at hC;have hnl:(Aw p).length=p.idxOf 61:=by rw[←hN,List.length_take];omega
   obtain⟨I,hI⟩:∃I,p.idxOf 61=I:=⟨_,rfl⟩;rw[hI]at hnl hlt;have hvl:(ss p).length<1000000:=by rw[←hV,List.length_drop];omega
   simp(disch:=omega)[wl,bI,hg];refine aa hC ?_;simp(disch:=omega)[wl];refine aa hO ?_;by_cases hk:FY p<14
   ·have hix:PG ub (Aw p)=(FY p:Nat):=VS _ hk;rw[if_neg (by omega)]at h3;obtain⟨k,hkk⟩:∃k,FY p=k:=⟨_,rfl⟩;rw[hix,hkk];rw[hkk]at h3 hk;have hwk:=E5 was hk;have hws:=Y8 was hk;simp(disch:=omega)[wl,hwk];by_cases hin:k∈was
    ·rw[if_pos hin]at h3;subst h3;have hNw:=up (fQ 19 a);rw[if_neg (by omega)]at hNw;simp(disch:=omega)[wl,hin];refine⟨by omega,?_⟩;refine aa hNw ?_;simp(disch:=omega)[wl,SK,tI]
    ·rw[if_neg hin]at h3;have hwl:=E6 was;simp(disch:=omega)[wl,hin,hws];refine⟨by omega,by omega,?_⟩;by_cases hl4:4≤k
     ·by_cases hl12:k≤12
      ·have hin':k∈cE:=by simp[cE];omega
       by_cases h7:k=7
       ·subst h7;rw[Z3]at h3;have hM:=Lv r (ss p) hvl;obtain⟨E,hE⟩:∃E,dW Af (ss p)=E:=⟨_,rfl⟩;rw[hE]at hM h3;simp(disch:=omega)[wl];refine callM [(1000,4)] [] hM rfl rfl ⟨rfl,trivial⟩ ⟨rfl,[],[],rfl,⟨[],[],rfl,rfl,rfl⟩,rfl⟩ rfl ?_;cases E with
        |ok l=>
         have hl12:=tH hE;simp only at h3;simp(disch:=omega)[wl,wb,yY];refine aq ⟨i+1,a+p.length+1,7::was,{r with l7:=l }⟩ ⟨by simp only;omega,by simp only;omega,h3,VR hl12 h4⟩ (by simp only;omega) ?_;simp[bz,E7];exact ap rfl rfl (by simp[bv,aC,ac];omega) (by simp[cC,ac]) (by simp[ct])
        |no e q=>
         simp only at h3;rw[hI]at h3;subst h3;have hIn:=up (YT e [(q:Int)] ((a:Int)+((Aw p).length:Int)+1));simp only[dp]at hIn;simp(disch:=omega)[wl,wb,dp];refine aa hIn ?_;simp(disch:=omega)[wl,SK,tI,dp,hnl]
       ·rw[Z2 r k hin' h7]at h3;have hM:=Lu r k hin' h7 (ss p) hvl;obtain⟨E,hE⟩:∃E,dW (dU 5 (O0 k) (O1 k) (SA k)) (ss p)=E:=⟨_,rfl⟩;rw[hE]at hM h3;simp(disch:=omega)[wl];refine callM [(1000,4)] [] hM rfl rfl ⟨rfl,trivial⟩ ⟨rfl,[],[],rfl,⟨[],[],rfl,rfl,rfl⟩,rfl⟩ rfl ?_;cases E with
        |ok l=>
         have hl12:=tH hE;simp only at h3;simp(disch:=omega)[wl,wb,yY];refine aq ⟨i+1,a+p.length+1,k::was,lA r k l⟩ ⟨by simp only;omega,by simp only;omega,h3,VQ hl12 h4⟩ (by simp only;omega) ?_;simp[bz,E7];exact ap rfl rfl (by simp[bv,aC,ac];omega) (by simp[cC,ac]) (by simp[ct])
        |no e q=>
         simp only at h3;rw[hI]at h3;subst h3;have hIn:=up (YT e [(q:Int)] ((a:Int)+((Aw p).length:Int)+1));simp only[dp]at hIn;simp(disch:=omega)[wl,wb,dp];refine aa hIn ?_;simp(disch:=omega)[wl,SK,tI,dp,hnl]
      ·skip;have hk5:k=0∨k=1∨k=2∨k=3∨k=13:=by omega
       rw[VO r k hk5]at h3;have hM:=fnM_take r k hk5 (ss p) hvl;have hfin:=PO k (ss p) h4;obtain⟨⟨r',e⟩,hT⟩:∃T,tkP r k (ss p)=T:=⟨_,rfl⟩;rw[hT]at hM h3 hfin;simp only at hM h3 hfin;simp(disch:=omega)[wl];refine callM [(1000,4)] [] hM rfl rfl ⟨rfl,trivial⟩ ⟨rfl,[],[],rfl,⟨[],[],rfl,rfl,rfl⟩,rfl⟩ rfl ?_;by_cases e0:e=0
       ·rw[if_pos e0]at h3;simp only at h3;subst e0;simp(disch:=omega)[wl,wX];refine aq ⟨i+1,a+p.length+1,k::was,r'⟩ ⟨by simp only;omega,by simp only;omega,h3,hfin⟩ (by simp only;omega) ?_;simp[bz,E7];exact ap rfl rfl (by simp[bv,aC,ac];omega) (by simp[cC,ac]) (by simp[ct])
       ·rw[if_neg e0]at h3;simp only at h3;rw[hI]at h3;subst h3;have hCd:=up (wJ e [0]);have hNw:=up (fQ e ((a:Int)+((Aw p).length:Int)+1));rw[if_neg e0]at hNw;simp only[dp]at hCd hNw;simp(disch:=omega)[wl,wX,e0,dp];refine aa hCd ?_;simp(disch:=omega)[wl];refine aa hNw ?_;simp(disch:=omega)[wl,SK,tI,dp,hnl]
     ·skip;have hk5:k=0∨k=1∨k=2∨k=3∨k=13:=by omega
      rw[VO r k hk5]at h3;have hM:=fnM_take r k hk5 (ss p) hvl;have hfin:=PO k (ss p) h4;obtain⟨⟨r',e⟩,hT⟩:∃T,tkP r k (ss p)=T:=⟨_,rfl⟩;rw[hT]at hM h3 hfin;simp only at hM h3 hfin;simp(disch:=omega)[wl];refine callM [(1000,4)] [] hM rfl rfl ⟨rfl,trivial⟩ ⟨rfl,[],[],rfl,⟨[],[],rfl,rfl,rfl⟩,rfl⟩ rfl ?_;by_cases e0:e=0
      ·rw[if_pos e0]at h3;simp only at h3;subst e0;simp(disch:=omega)[wl,wX];refine aq ⟨i+1,a+p.length+1,k::was,r'⟩ ⟨by simp only;omega,by simp only;omega,h3,hfin⟩ (by simp only;omega) ?_;simp[bz,E7];exact ap rfl rfl (by simp[bv,aC,ac];omega) (by simp[cC,ac]) (by simp[ct])
      ·rw[if_neg e0]at h3;simp only at h3;rw[hI]at h3;subst h3;have hCd:=up (wJ e [0]);have hNw:=up (fQ e ((a:Int)+((Aw p).length:Int)+1));rw[if_neg e0]at hNw;simp only[dp]at hCd hNw;simp(disch:=omega)[wl,wX,e0,dp];refine aa hCd ?_;simp(disch:=omega)[wl];refine aa hNw ?_;simp(disch:=omega)[wl,SK,tI,dp,hnl]
   ·have hix:PG ub (Aw p) = -1:=QE (fun hm'=>hk (List.idxOf_lt_length_iff.2 hm'));rw[if_pos (by omega)]at h3;subst h3;rw[hix];have hNw:=up (fQ 11 a);rw[if_neg (by omega)]at hNw;simp(disch:=omega)[wl];refine aa hNw ?_;simp(disch:=omega)[wl,SK,tI]
  ·rw[if_neg h61]at hC;have hO:=K2 p;simp only[kL]at h3;rw[if_pos h61]at h3;subst h3;have hNw:=up (fQ 4 a);rw[if_neg (by omega)]at hNw;simp(disch:=omega)[wl,bI,hg];refine aa hC ?_;simp(disch:=omega)[wl];refine aa hO ?_;simp(disch:=omega)[wl];refine aa hNw ?_;simp(disch:=omega)[wl,SK,tI]
 ·obtain rfl:i=P.length:=by omega
  rw[List.drop_length]at h3;simp only[kL,XP]at h3;have hC:=C9 r h4.1 h4.2.1;have hw0:=E5 was (k:=0) (by omega);obtain⟨e,he⟩:∃e,o5 r=e:=⟨_,rfl⟩;rw[he]at hC h3;unfold Ru.iv cells at hC;simp(disch:=omega)[wl,bI,hw0];by_cases c0:0∈was
  ·rw[if_pos c0]at h3;simp(disch:=omega)[wl,c0,eR];refine aa hC ?_;by_cases e0:e=0
   ·rw[if_pos e0]at h3;subst h3;simp(disch:=omega)[wl,e0,SK,Ru.iv,cells]
   ·rw[if_neg e0]at h3;subst h3;have hNw:=up (fQ e s.length);rw[if_neg e0]at hNw;simp(disch:=omega)[wl,e0];refine aa hNw ?_;simp(disch:=omega)[wl,SK,tI]
  ·rw[if_neg c0]at h3;subst h3;have hNw:=up (fQ 6 s.length);rw[if_neg (by omega)]at hNw;simp(disch:=omega)[wl,c0];refine aa hNw ?_;simp(disch:=omega)[wl,SK,tI]
end Go.Vs.YtcjeehebikeghaaGreatDoor.Rc
