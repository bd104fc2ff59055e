/- A part of a proof. No conditions. -/
import Derived.Test.YtcjeehebikeghaaGreatDoorVQ
import Derived.Test.YtcjeehebikeghaaGreatDoorVR
set_option linter.unusedVariables false
set_option linter.unusedSimpArgs false
set_option maxRecDepth 100000
set_option maxHeartbeats 16000000
namespace Go.Vs.YtcjeehebikeghaaGreatDoor.Vt
open Go.Proofs Go.Vs.U8 Go.Vs.Pa Go.Vs.Nu Go.Vs.Mo Go.Vs.Vt Go.Vs.YtcjeehebikeghaaGreatDoor.Rc
def aN(l:List Ln):Nat->List Ln
 |0=>l
 |1=>bf l bH
 |2=>bf (bf l bH) bM
 |3=>bf (bf (bf l bH) bM) bj
 |4=>bf (bf (bf (bf l bH) bM) bj) fX
 |_=>bf (bf (bf (bf (bf l bH) bM) bj) fX) dk
theorem dE{l:List Ln}{n:Str}(h:fU l/\l.length<100000):fU (bf l n)/\(bf l n).length<100000:=⟨fun x hx=>h.1 x (ki hx),Nat.lt_of_le_of_lt (drop_len _ _) h.2⟩
theorem gB{l:List Ln}(h:fU l/\l.length<100000):∀i,fU (aN l i)/\(aN l i).length<100000
 |0=>h
 |1=>dE h
 |2=>dE (dE h)
 |3=>dE (dE (dE h))
 |4=>dE (dE (dE (dE h)))
 |_+5=>dE (dE (dE (dE (dE h))))
theorem RP(l:List Ln)(f:Fc)(hf:fU l)(hv:jo 1000 l)(hl:l.length<1000)(hr:kS l=.ok f)(hrd:f.rd=true)(hb:gE ⟨f.b.k,bD f⟩=0)(he:f.e.k≠0->gE ⟨f.e.k,(dX f).1⟩=0)(hd:(dX f).2=true) :
  Fn G2 T_ 30 [.slice (ls l)] (.tuple [.slice (ls (pS f l)),.int .i64 0]):=by
 refine ag hm DJ (by simp) ?_;have hF:=E5 hv hr;have hR:=oL l hf hv (by omega);rw[hr]at hR;have hI:=BH f;have hP:=uJ ⟨f.b.k,bD f⟩ hF.b.1;have hD:=DV f hF;have hT:=jF f.e.k f.e.s;unfold Oh at hP;rw[hb,if_pos rfl]at hP;rw[hd]at hD;obtain⟨R,hR0⟩:∃R,pS f l=R:=⟨_,rfl⟩;rw[hR0];unfold pS at hR0;simp only[Kj,Fc.iv,zf,cells,List.cons_append,List.nil_append,hrd,lK]at hR hI hP hD;have s1:(dQ ⟨f.b.k,bD f⟩).length<100000:=by have:=qA ⟨f.b.k,bD f⟩;omega
 have s2:(dQ ⟨f.e.k,(dX f).1⟩).length<100000:=by have:=qA ⟨f.e.k,(dX f).1⟩;omega
 simp[wh];refine aa hR ?_;simp(disch:=omega)[wl];refine aa hI ?_;simp;refine aa hP ?_;simp;refine⟨rfl,?_⟩;refine aa hD ?_;simp;refine aa hT ?_;by_cases h1:f.e.k=0
 ·rw[if_neg (by simp[h1])]at hR0;have hS:=yX l aK (dQ ⟨f.b.k,bD f⟩) hf (by omega) (by decide) s1;have mF:fU (kW l aK (dQ ⟨f.b.k,bD f⟩))/\(kW l aK (dQ ⟨f.b.k,bD f⟩)).length<100000:=⟨rK hf (by decide) s1,by have:=Id l aK (dQ ⟨f.b.k,bD f⟩);omega⟩;obtain⟨m,hm2⟩:∃m,kW l aK (dQ ⟨f.b.k,bD f⟩)=m:=⟨_,rfl⟩;rw[hm2]at hS mF hR0;simp only[aK]at hS;simp(disch:=omega)[wl,h1];refine aa hS ?_;simp;refine ce hm [13] (fun i:Nat=>[(63,.val (.int .i64 i)),(0,.val (.slice (ls (aN m i))))]) (fun _=>[(4,.box (VL f))]) (fun i=>i<=5) (fun i=>5-i) 0 (by omega) ?_ ?_
  ·simp[aN,VL,zf,cells,hrd,h1];exact bQ
  rintro i hi;simp;have hcase:i=0\/i=1\/i=2\/i=3\/i=4\/i=5:=by omega
  rcases hcase with rfl|rfl|rfl|rfl|rfl|rfl
  ·have h5:=up (gp (aN m 0) bH (gB mF 0).2 (gB mF 0).1);simp only[bH]at h5;simp;refine aa h5 ?_;simp(disch:=omega)[wl];refine au 1 (by omega) (by omega) ?_;simp[aN,bH];exact bQ
  ·have h5:=up (gp (aN m 1) bM (gB mF 1).2 (gB mF 1).1);simp only[bM]at h5;simp;refine aa h5 ?_;simp(disch:=omega)[wl];refine au 2 (by omega) (by omega) ?_;simp[aN,bM];exact bQ
  ·have h5:=up (gp (aN m 2) bj (gB mF 2).2 (gB mF 2).1);simp only[bj]at h5;simp;refine aa h5 ?_;simp(disch:=omega)[wl];refine au 3 (by omega) (by omega) ?_;simp[aN,bj];exact bQ
  ·have h5:=up (gp (aN m 3) fX (gB mF 3).2 (gB mF 3).1);simp only[fX]at h5;simp;refine aa h5 ?_;simp(disch:=omega)[wl];refine au 4 (by omega) (by omega) ?_;simp[aN,fX];exact bQ
  ·have h5:=up (gp (aN m 4) dk (gB mF 4).2 (gB mF 4).1);simp only[dk]at h5;simp;refine aa h5 ?_;simp(disch:=omega)[wl];refine au 5 (by omega) (by omega) ?_;simp[aN,dk];exact bQ
  ·subst hR0;simp[aN]
 ·rw[if_pos h1]at hR0;have hE:=uJ ⟨f.e.k,(dX f).1⟩ hF.e.1;unfold Oh at hE;rw[he h1,if_pos rfl]at hE;simp only[lK]at hE;have hS0:=yX l cW (dQ ⟨f.e.k,(dX f).1⟩) hf (by omega) (by decide) s2;have m0:fU (kW l cW (dQ ⟨f.e.k,(dX f).1⟩)):=rK hf (by decide) s2;have m1:=Id l cW (dQ ⟨f.e.k,(dX f).1⟩);obtain⟨l2,hl2⟩:∃m,kW l cW (dQ ⟨f.e.k,(dX f).1⟩)=m:=⟨_,rfl⟩;rw[hl2]at hS0 m0 m1 hR0;have hS:=yX l2 aK (dQ ⟨f.b.k,bD f⟩) m0 (by omega) (by decide) s1;have mF:fU (kW l2 aK (dQ ⟨f.b.k,bD f⟩))/\(kW l2 aK (dQ ⟨f.b.k,bD f⟩)).length<100000:=⟨rK m0 (by decide) s1,by have:=Id l2 aK (dQ ⟨f.b.k,bD f⟩);omega⟩;obtain⟨m,hm2⟩:∃m,kW l2 aK (dQ ⟨f.b.k,bD f⟩)=m:=⟨_,rfl⟩;rw[hm2]at hS mF hR0;simp only[aK,cW]at hS hS0;simp(disch:=omega)[wl,h1];refine aa hE ?_;simp;refine aa hS0 ?_;simp;refine aa hS ?_;simp;refine ce hm [13] (fun i:Nat=>[(63,.val (.int .i64 i)),(0,.val (.slice (ls (aN m i))))]) (fun _=>[(4,.box (VL f))]) (fun i=>i<=5) (fun i=>5-i) 0 (by omega) ?_ ?_
  ·simp[aN,VL,zf,cells,hrd,h1];exact bQ
  rintro i hi;simp;have hcase:i=0\/i=1\/i=2\/i=3\/i=4\/i=5:=by omega
  rcases hcase with rfl|rfl|rfl|rfl|rfl|rfl
  ·have h5:=up (gp (aN m 0) bH (gB mF 0).2 (gB mF 0).1);simp only[bH]at h5;simp;refine aa h5 ?_;simp(disch:=omega)[wl];refine au 1 (by omega) (by omega) ?_;simp[aN,bH];exact bQ
  ·have h5:=up (gp (aN m 1) bM (gB mF 1).2 (gB mF 1).1);simp only[bM]at h5;simp;refine aa h5 ?_;simp(disch:=omega)[wl];refine au 2 (by omega) (by omega) ?_;simp[aN,bM];exact bQ
  ·have h5:=up (gp (aN m 2) bj (gB mF 2).2 (gB mF 2).1);simp only[bj]at h5;simp;refine aa h5 ?_;simp(disch:=omega)[wl];refine au 3 (by omega) (by omega) ?_;simp[aN,bj];exact bQ
  ·have h5:=up (gp (aN m 3) fX (gB mF 3).2 (gB mF 3).1);simp only[fX]at h5;simp;refine aa h5 ?_;simp(disch:=omega)[wl];refine au 4 (by omega) (by omega) ?_;simp[aN,fX];exact bQ
  ·have h5:=up (gp (aN m 4) dk (gB mF 4).2 (gB mF 4).1);simp only[dk]at h5;simp;refine aa h5 ?_;simp(disch:=omega)[wl];refine au 5 (by omega) (by omega) ?_;simp[aN,dk];exact bQ
  ·subst hR0;simp[aN]
end Go.Vs.YtcjeehebikeghaaGreatDoor.Vt
namespace Go.Vs.YtcjeehebikeghaaGreatDoor.Vt
open Go.Lib Go.Vs.U8 Go.Vs.Pa Go.Vs.Nu Go.Vs.Mo Go.Vs.Vt Go.Vs.YtcjeehebikeghaaGreatDoor.Rc
theorem OI(v:Mom):44∉dQ v:=by
 have h:=fun w n=>Tj (c:=44) (by decide) w n
 unfold dQ Mo.dayT Di;simp only[List.mem_append,not_or];refine⟨⟨h _ _,h _ _,h _ _⟩,?_⟩;split
 ·simp
 ·simp only[List.mem_cons,List.mem_append,not_or];refine⟨by decide,⟨h _ _,h _ _,h _ _⟩,?_⟩;split<;>simp
theorem B3(q:Option Pm):∀(l:List Str) (a:List Mom),(∀v∈a,gE v=0/\¬DB q v.k)->∀v∈(jc q l a).2,gE v=0/\¬DB q v.k
 |[],a,h=>by rw[lQ];exact h
 |s::r,a,h=>by
  rw[jY];split
  ·simp
  ·next h1=>
   split
   ·simp
   ·next h2=>
    refine B3 q r _ fun v hv=>?_
    rcases List.mem_append.1 hv with hv|hv
    ·exact h v hv
    ·rw[List.mem_singleton.1 hv];exact⟨(Mt (v:=(gq s).1) (e:=(gq s).2) rfl).1 (by simpa using h1),h2⟩
theorem Ii{x:Ln}(h:(ck x).1=0):(gK x.p Wg).isSome=false/\gE (ck x).2=0/\¬DB (gK x.p Dz) (ck x).2.k:=by
 unfold ck at h |-;split at h
 ·next h1=>exact absurd h h1
 ·next h1=>
  split at h
  ·next h2=>
   rw[if_neg h1,if_pos h2];obtain⟨v,hv⟩:=List.length_eq_one_iff.1 h2
   have htz:(gK x.p Wg).isSome=false:=by
    cases ht:(gK x.p Wg).isSome with
    |false=>rfl
    |true=>exact absurd (by unfold cq;rw[if_pos ht];decide) h1
   have hall:=B3 (gK x.p Dz) (parts 44 x.v) [] (by simp);have he:(cq x).2=(jc (gK x.p Dz) (parts 44 x.v) []).2:=by unfold cq;rw[if_neg (by simp[htz])]
   rw[<-he,hv]at hall;rw[hv];exact⟨htz,hall v (by simp)⟩
  ·simp at h
theorem RQ{x:Ln}{w:Mom}(n:Str)(h:(ck x).1=0)(hk:w.k=(ck x).2.k)(hw:gE w=0):ck ⟨n,x.p,dQ w⟩=(0,w):=by
 obtain⟨h1,_,h3⟩:=Ii h
 have hd:cq ⟨n,x.p,dQ w⟩=(0,[w]):=by
  unfold cq;rw[if_neg (by simp[h1])];dsimp only;rw[wV (OI w),jY,QT hw,if_neg (by simp),if_neg (by rw[hk];exact h3),lQ];rfl
 unfold ck;rw[hd,if_neg (by simp),if_pos (by simp)];rfl
theorem BL{g:Str->Option Ln}{n:Str}{h:Ln->Mom}(hk:(fo g n h yy).k≠0):∃x,g n=some x/\fo g n h yy=h x:=by
 unfold fo at hk |-;cases hg:g n with
 |none=>rw[hg]at hk;exact absurd rfl hk
 |some x=>exact⟨x,rfl,rfl⟩
theorem E6{l:List Ln}{x:Ln}{w:Mom}{n:Str}(hG:Bj l)(hn:n=aK\/n=cW)(hg:d7 l n=some x)(hk:w.k=(ck x).2.k)(hw:gE w=0)(hd:(ck x).1=0):pT ⟨n,Ly l n,dQ w⟩=0/\(ck ⟨n,Ly l n,dQ w⟩).2=w:=by
 have hp:Ly l n=x.p:=by unfold Ly;rw[hg]
 have hz:=RQ n hd hk hw;have hc:=VE hG n;rw[hp]at hc |-;refine⟨?_,by rw[hz]⟩;unfold pT
 have ht:bB ⟨n,x.p,dQ w⟩=(ck ⟨n,x.p,dQ w⟩).1:=by
  rcases hn with rfl|rfl<;>simp[bB,cZ,be,bP,aK,cW]
 rw[RO (by rcases hn with rfl|rfl<;>decide) hc (by have:=qA w;omega) (LN w),if_neg (by decide),if_neg (by rcases hn with rfl|rfl<;>simp[aK,cW,EW,EX]),ht,hz]
def dF(f:Fc):Fc:={f with b:=⟨f.b.k,bD f⟩,e:=if f.e.k≠0 then ⟨f.e.k,(dX f).1⟩else f.e,rd:=false,ru:=Oa,i:=[],o:=[],at':=yy,af:=false }
structure AloneH(l:List Ln)(f:Fc):Prop where
 bk:f.b.k≠0
 hb:gE ⟨f.b.k,bD f⟩=0
 he:f.e.k≠0->gE ⟨f.e.k,(dX f).1⟩=0
 hd:(dX f).2=true
 hp:eL f=0
 hl:uQ f.li=0
 c1:aV l cZ≠0
 c2:aV l be≠0
 ib:f.b.s<=bD f
theorem za{v:Mom} : gE v=0↔1<=v.k/\v.k<=3/\0<=v.s/\v.s<=315537897599/\(v.k=1->v.s%86400=0):=by
 unfold gE;constructor
 ·intro h;split at h
  ·simp at h
  ·split at h
   ·simp at h
   ·split at h
    ·simp at h
    ·next h1 h2 h3=>exact⟨by omega,by omega,by omega,by omega,fun hk=>Classical.byContradiction fun q=>h3 ⟨hk,q⟩⟩
 ·rintro⟨h1,h2,h3,h4,h5⟩;rw[if_neg (by omega),if_neg (by omega),if_neg (fun q=>q.2 (h5 q.1))]
theorem LO{f:Fc}(hp:eL f=0)(hb:f.b.k≠0)(he:f.e.k≠0):f.b.k=f.e.k/\f.b.s<=f.e.s:=by
 unfold eL at hp;split at hp
 ·simp at hp
 split at hp
 ·simp at hp
 next q1=>
 split at hp
 ·simp at hp
 next q2=>
 exact⟨Classical.byContradiction fun q=>q1 ⟨hb,he,q⟩,Int.not_lt.1 fun q=>q2 ⟨hb,he,q⟩⟩
theorem MP{l:List Ln}{f:Fc}(h:kS l=.ok f)(hrd:f.rd=true):AloneH l f:=by
 obtain⟨_,hG,hF,hW⟩:=yA.1 h;unfold dO at hW;split at hW
 ·simp at hW
 next z1=>
 simp only[not_or]at z1;split at hW
 ·next z2=>exact absurd hW z2
 next z2=>
 split at hW
 ·next z3=>exact absurd hW z3
 next z3=>
 replace hW:kR f l=0:=by simpa[hrd]using hW
 unfold kR at hW;split at hW
 ·simp at hW
 next z4=>
 split at hW
 ·next z5=>exact absurd hW z5
 next z5=>
 split at hW
 ·simp at hW
 split at hW
 ·simp at hW
 next z6=>
 split at hW
 ·simp at hW
 next z7=>
 split at hW
 ·simp at hW
 split at hW
 ·simp at hW
 next z8=>
 have hp:eL f=0:=by simpa using z3
 have hdd:(dX f).2=true:=by simpa using z8
 have hmb:gE f.b=0:=by
  have z5:HS f.b f.ru f.i f.o=0:=by simpa using z5
  unfold HS at z5;split at z5
  ·next q=>exact absurd z5 q
  ·next q=>simpa using q
 have hat:f.at'.k≠0->gE f.at'=0:=fun hk=>by
  have e:f.at'=fo (d7 l) fX (fun x=>(ck x).2) yy:=by rw[hF];rfl
  rw[e]at hk |-;obtain⟨x,q1,q2⟩:=BL hk;rw[q2];have ht:=rE hG q1;have hn:=yD q1;have:(ck x).1=0:=by rw[<-ht];simp[bB,hn,cZ,be,bP,aK,cW,fX]
  exact(Ii this).2.1
 have hin:gE ⟨f.b.k,bD f⟩=0/\f.b.s<=bD f:=by
  unfold bD;by_cases hk:f.at'.k=0
  ·rw[if_neg (by simp[hk])];exact⟨hmb,Int.le_refl _⟩
  ·rw[if_pos ⟨hk,hrd⟩];have e1:f.at'.k=f.b.k:=Classical.byContradiction fun q=>z6 ⟨hk,q⟩
   have e2:¬f.at'.s<f.b.s:=fun q=>z7 ⟨hk,q⟩
   exact⟨by rw[<-e1];exact hat hk,by omega⟩
 have hdue:dX f=(bD f+mN f,true):=by
  unfold dX at hdd |-;rw[if_neg (by simp[hrd])]at hdd |-;unfold lL at hdd |-;split at hdd
  ·simp at hdd
  ·next q=>rw[if_neg q]
 have hrange:¬315537897599<bD f+mN f:=by
  intro q;unfold dX at hdd;rw[if_neg (by simp[hrd])]at hdd;unfold lL at hdd;rw[if_pos (.inr (.inr (.inr q)))]at hdd;simp at hdd
 refine⟨z4,hin.1,fun hk=>?_,hdd,hp,by simpa using z2,z1.1,z1.2,hin.2⟩
 have hme:gE f.e=0:=by
  have e:f.e=fo (d7 l) cW (fun x=>(ck x).2) yy:=by rw[hF];rfl
  rw[e]at hk |-;obtain⟨x,q1,q2⟩:=BL hk;rw[q2];have ht:=rE hG q1;have hn:=yD q1;have:(ck x).1=0:=by rw[<-ht];simp[bB,hn,cZ,be,bP,aK,cW,fX]
  exact(Ii this).2.1
 obtain⟨p1,p2⟩:=LO hp z4 hk;have hlen:mN f=f.e.s-f.b.s:=by unfold mN;rw[if_pos ⟨z4,hk⟩]
 rw[hdue,za];have w1:=za.1 hin.1;have w2:=za.1 hme;have w3:=za.1 hmb;dsimp only at w1 |-;refine⟨w2.1,w2.2.1,by omega,by omega,fun hk1=>?_⟩;have a1:=w1.2.2.2.2 (by omega);have a2:=w2.2.2.2.2 hk1;have a3:=w3.2.2.2.2 (by omega);omega
theorem put_same{l:List Ln}{n v:Str}{x:Ln}(h:d7 l n=some x):(kW l n v).length<=l.length:=by
 rw[ud];have:=set_len ⟨n,Ly l n,v⟩ l;dsimp only at this;rw[h,if_neg (by simp)]at this;omega
theorem OJ{l:List Ln}{f:Fc}(hG:Bj l)(hF:f=gF l)(H:AloneH l f):∃l2,(if f.e.k≠0 then kW l cW (dQ ⟨f.e.k,(dX f).1⟩)else l)=l2/\Bj l2/\(∀n,n≠cW->d7 l2 n=d7 l n)/\(∀n,n≠cW->aV l2 n=aV l n)/\fo (d7 l2) cW (fun x=>(ck x).2) yy=(dF f).e/\l2.length<=l.length:=by
 have e:f.e=fo (d7 l) cW (fun x=>(ck x).2) yy:=by rw[hF];rfl
 by_cases hk:f.e.k=0
 ·exact⟨l,by rw[if_neg (by simp[hk])],hG,fun _ _=>rfl,fun _ _=>rfl,by rw[<-e];simp[dF,hk],Nat.le_refl _⟩
 ·refine⟨_,if_pos hk,?_,fun n hn=>?_,fun n hn=>?_,?_,?_⟩
  all_goals (have hk':=hk;rw[e]at hk';obtain⟨x,q1,q2⟩:=BL hk';have hn':=yD q1;have ht:=rE hG q1;have hd0:(ck x).1=0:=by rw[<-ht];simp[bB,hn',cZ,be,bP,aK,cW,fX])
  all_goals (have ha:=E6 (w:=⟨f.e.k,(dX f).1⟩) hG (.inr rfl) q1 (by show f.e.k=_;rw[e,q2]) (H.he hk) hd0)
  ·exact K0 hG ha.1
  ·rw[HY,if_neg hn]
  ·rw[MD,if_neg hn]
  ·unfold fo;rw[HY,if_pos rfl];simp only[dF];rw[if_pos hk];exact ha.2
  ·exact put_same q1
theorem VV{f:Fc}(hrd:f.rd=true)(hd:(dX f).2=true):(dX f).1=bD f+mN f/\bD f+mN f<=315537897599/\0<=bD f/\bD f<=315537897599:=by
 unfold dX at hd |-;rw[if_neg (by simp[hrd])]at hd |-;unfold lL at hd |-;split at hd
 ·simp at hd
 ·next q=>
  rw[if_neg q];simp only[not_or]at q;exact⟨rfl,by omega,by omega,by omega⟩
theorem E7{l:List Ln}{f:Fc}(H:AloneH l f)(hrd:f.rd=true):eL (dF f)=0/\dX (dF f)=((dX f).1,true):=by
 obtain⟨d1,d2,d3,d4⟩:=VV hrd H.hd;have hp:=H.hp;have hib:=H.ib;have hbk:=H.bk;unfold eL at hp;split at hp
 ·simp at hp
 next p1=>
 split at hp
 ·simp at hp
 next p2=>
 split at hp
 ·simp at hp
 next p3=>
 split at hp
 ·simp at hp
 next p4=>
 replace hp:(addS f.b.s f.sp).2=0:=by simpa[hbk]using hp
 have ha:0<=f.b.s/\-86399913600<=f.sp/\f.sp<=86399913600/\0<=f.b.s+f.sp:=by
  unfold Vt.addS at hp;split at hp
  ·simp at hp
  ·omega
 by_cases hk:f.e.k=0
 ·have hl:mN f=f.sp:=by unfold mN;rw[if_neg (by simp[hk])]
  have he:(dF f).e=f.e:=by simp[dF,hk]
  constructor
  ·unfold eL;rw[he];show(if 0<f.sp/\(f.e.k≠0\/f.b.k=0)then 9 else if f.b.k≠0/\f.e.k≠0/\f.b.k≠f.e.k then 11 else if f.b.k≠0/\f.e.k≠0/\f.e.s<bD f then 8 else if f.b.k=1/\f.sp%86400≠0 then 9 else if f.b.k≠0 then (addS (bD f) f.sp).2 else 0)=0;rw[if_neg p1,if_neg p2,if_neg (by simp[hk]),if_neg p4,if_pos hbk];unfold Vt.addS;rw[if_neg (by omega)]
  ·rw[show(dX f).1=bD f+f.sp by rw[d1,hl]];unfold dX;rw[he,if_neg (by simp[hk])];show lL (dF f) (bD (dF f))=_
   have hi:bD (dF f)=bD f:=by
    show(if yy.k≠0/\false=true then yy.s else bD f)=bD f;rw[if_neg (by simp)]
   have hle:mN (dF f)=f.sp:=by
    unfold mN;rw[he,if_neg (by simp[hk])];rfl
   unfold lL;rw[hi,hle,if_neg (by show ¬(bD f<0\/315537897599<bD f\/f.b.k=0\/315537897599<bD f+f.sp);omega)]
 ·have hl:mN f=f.e.s-f.b.s:=by unfold mN;rw[if_pos ⟨hbk,hk⟩]
  have hes:¬f.e.s<f.b.s:=fun q=>p3 ⟨hbk,hk,q⟩
  have hsp:¬0<f.sp:=fun q=>p1 ⟨q,.inl hk⟩
  have he:(dF f).e=⟨f.e.k,(dX f).1⟩:=by simp[dF,hk]
  constructor
  ·unfold eL;rw[he];show(if 0<f.sp/\(f.e.k≠0\/f.b.k=0)then 9 else if f.b.k≠0/\f.e.k≠0/\f.b.k≠f.e.k then 11 else if f.b.k≠0/\f.e.k≠0/\(dX f).1<bD f then 8 else if f.b.k=1/\f.sp%86400≠0 then 9 else if f.b.k≠0 then (addS (bD f) f.sp).2 else 0)=0;rw[if_neg p1,if_neg p2,if_neg (by rw[d1,hl];omega),if_neg p4,if_pos hbk];unfold Vt.addS;rw[if_neg (by omega)]
  ·have e:dX (dF f)=(if (dF f).e.k≠0/\false=false then ((dF f).e.s,true)else lL (dF f) (bD (dF f))):=rfl;rw[e,he,if_pos ⟨hk,rfl⟩]
theorem LP{l:List Ln}{f:Fc}(h:kS l=.ok f)(hrd:f.rd=true):kS (pS f l)=.ok (dF f):=by
 have H:=MP h hrd;obtain⟨hlen,hG,hF,hW⟩:=yA.1 h;obtain⟨l2,e2,g2,k2,c2,d2,n2⟩:=OJ hG hF H;have hb:f.b=fo (d7 l) aK (fun x=>(ck x).2) yy:=by rw[hF];rfl
 have hbk:=H.bk;rw[hb]at hbk;obtain⟨x,q1,q2⟩:=BL hbk;have hn:=yD q1;have ht:=rE hG q1;have hd0:(ck x).1=0:=by rw[<-ht];simp[bB,hn,cZ,be,bP,aK]
 have q3:d7 l2 aK=some x:=by rw[k2 aK (by decide)];exact q1
 have ha:=E6 (w:=⟨f.b.k,bD f⟩) g2 (.inl rfl) q3 (by show f.b.k=_;rw[hb,q2]) H.hb hd0;have gm:Bj (kW l2 aK (dQ ⟨f.b.k,bD f⟩)):=K0 g2 ha.1;have km:∀n,d7 (kW l2 aK (dQ ⟨f.b.k,bD f⟩)) n=_:=fun n=>HY l2 aK _ n
 have cm:∀n,aV (kW l2 aK (dQ ⟨f.b.k,bD f⟩)) n=_:=fun n=>MD l2 aK _ n
 have nm:(kW l2 aK (dQ ⟨f.b.k,bD f⟩)).length<=l2.length:=put_same q3
 have hA:pS f l=bf (bf (bf (bf (bf (kW l2 aK (dQ ⟨f.b.k,bD f⟩)) bH) bM) bj) fX) dk:=by
  unfold pS;rw[e2]
 obtain⟨m,em⟩:∃m,kW l2 aK (dQ ⟨f.b.k,bD f⟩)=m:=⟨_,rfl⟩;rw[em]at gm km cm nm hA;rw[hA];obtain⟨r,er⟩:∃r,bf (bf (bf (bf (bf m bH) bM) bj) fX) dk=r:=⟨_,rfl⟩;rw[er];have gr:Bj r:=er▸qF (qF (qF (qF (qF gm bH) bM) bj) fX) dk
 have kr:∀n,d7 r n=if n=dk then none else if n=fX then none else if n=bj then none else if n=bM then none else if n=bH then none else d7 m n:=fun n=>by
  rw[<-er,get_drop,get_drop,get_drop,get_drop,get_drop]
 have cr:∀n,aV r n=if n=dk then 0 else if n=fX then 0 else if n=bj then 0 else if n=bM then 0 else if n=bH then 0 else aV m n:=fun n=>by
  rw[<-er,qD,qD,qD,qD,qD]
 have nr:r.length<=m.length:=by
  have a1:=drop_len m bH;have a2:=drop_len (bf m bH) bM;have a3:=drop_len (bf (bf m bH) bM) bj;have a4:=drop_len (bf (bf (bf m bH) bM) bj) fX;have a5:=drop_len (bf (bf (bf (bf m bH) bM) bj) fX) dk;rw[er]at a5;omega
 have same:∀n,n≠dk->n≠fX->n≠bj->n≠bM->n≠bH->n≠aK->n≠cW->d7 r n=d7 l n:=fun n a b c d e f' g=>by
  rw[kr,if_neg a,if_neg b,if_neg c,if_neg d,if_neg e,km,if_neg f',k2 n g]
 have none5:∀n,n=dk\/n=fX\/n=bj\/n=bM\/n=bH->d7 r n=none/\aV r n=0:=fun n hn=>by
  rw[kr,cr];rcases hn with rfl|rfl|rfl|rfl|rfl<;>simp[dk,fX,bj,bM,bH]
 have fl:∀n,n=bj\/n=bM->r.filter (dr n)=[]:=fun n hn=>by
  have:=(none5 n (by rcases hn with h|h<;>simp[h])).2;exact List.length_eq_zero_iff.1 this
 have b1:fo (d7 r) aK (fun x=>(ck x).2) yy=⟨f.b.k,bD f⟩:=by
  unfold fo;rw[kr,if_neg (by decide),if_neg (by decide),if_neg (by decide),if_neg (by decide),if_neg (by decide),km,if_pos rfl];exact ha.2
 have b2:fo (d7 r) cW (fun x=>(ck x).2) yy=(dF f).e:=by
  rw[<-d2];refine yZ ?_;rw[kr,if_neg (by decide),if_neg (by decide),if_neg (by decide),if_neg (by decide),if_neg (by decide),km,if_neg (by decide)]
 have hg:gF r=dF f:=by
  have z:∀ {α:Type} (n:Str) (h:Ln->α) (d:α),(n=dk\/n=fX\/n=bj\/n=bM\/n=bH)->fo (d7 r) n h d=d:=fun n h d hn=>by unfold fo;rw[(none5 n hn).1]
  have s1:=same cZ (by decide) (by decide) (by decide) (by decide) (by decide) (by decide) (by decide);have s2:=same fK (by decide) (by decide) (by decide) (by decide) (by decide) (by decide) (by decide);have s3:=same be (by decide) (by decide) (by decide) (by decide) (by decide) (by decide) (by decide);have s4:=same d5 (by decide) (by decide) (by decide) (by decide) (by decide) (by decide) (by decide);have s5:=same dq (by decide) (by decide) (by decide) (by decide) (by decide) (by decide) (by decide);have s6:=same ii (by decide) (by decide) (by decide) (by decide) (by decide) (by decide) (by decide);have s7:=same bP (by decide) (by decide) (by decide) (by decide) (by decide) (by decide) (by decide);have s8:=same gv (by decide) (by decide) (by decide) (by decide) (by decide) (by decide) (by decide);obtain⟨b',eb⟩:∃b',(⟨f.b.k,bD f⟩:Mom)=b':=⟨_,rfl⟩;obtain⟨e',ee⟩:∃e',(dF f).e=e':=⟨_,rfl⟩;have hal:dF f = {f with b:=b',e:=e',rd:=false,ru:=Oa,i:=[],o:=[],at':=yy,af:=false }:=by rw[<-eb,<-ee];rfl
  rw[eb]at b1;rw[ee]at b2;rw[hal,hF];unfold gF HU;dsimp only;rw[b1,b2,yZ s1,yZ s2,yZ s3,yZ s4,yZ s5,yZ s6,yZ s7,yZ s8,fl bM (.inr rfl),fl bj (.inl rfl),z bH _ _ (by simp),z bH _ _ (by simp),z fX _ _ (by simp),z dk _ _ (by simp)];rfl
 refine yA.2 ⟨by omega,gr,hg.symm,?_⟩
 have u:∀n,n≠dk->n≠fX->n≠bj->n≠bM->n≠bH->n≠aK->n≠cW->aV r n=aV l n:=fun n a b c d e f' g=>by
  rw[cr,if_neg a,if_neg b,if_neg c,if_neg d,if_neg e,cm,if_neg f',c2 n g]
 have u1:aV r cZ≠0:=by rw[u cZ (by decide) (by decide) (by decide) (by decide) (by decide) (by decide) (by decide)];exact H.c1
 have u2:aV r be≠0:=by rw[u be (by decide) (by decide) (by decide) (by decide) (by decide) (by decide) (by decide)];exact H.c2
 unfold dO;rw[if_neg (by simp[u1,u2]),if_neg (by show ¬uQ f.li≠0;simp[H.hl]),if_neg (by simp[(E7 H hrd).1]),if_neg (by simp[dF]),(none5 bM (by simp)).2,(none5 bj (by simp)).2,(none5 fX (by simp)).2,(none5 dk (by simp)).2,if_neg (by simp)]
end Go.Vs.YtcjeehebikeghaaGreatDoor.Vt
namespace Go.Vs.YtcjeehebikeghaaGreatDoor.Vt
open Go.Proofs Go.Vs.U8 Go.Vs.Pa Go.Vs.Nu Go.Vs.Mo Go.Vs.Vt Go.Vs.YtcjeehebikeghaaGreatDoor.Rc
theorem E8{l:List Ln}{n:Str}(h:fU l/\jo 1000 l):fU (bf l n)/\jo 1000 (bf l n):=⟨fun x hx=>h.1 x (ki hx),fun x hx=>h.2 x (ki hx)⟩
theorem OK{l:List Ln}{f:Fc}(hf:fU l)(hv:jo 1000 l):fU (pS f l)/\jo 1000 (pS f l):=by
 have s1:=qA ⟨f.b.k,bD f⟩;have s2:=qA ⟨f.e.k,(dX f).1⟩;unfold pS;refine E8 (E8 (E8 (E8 (E8 ?_))));split
 ·exact⟨rK (rK hf (by decide) (by omega)) (by decide) (by omega),E3 (E3 hv (by omega)) (by omega)⟩
 ·exact⟨rK hf (by decide) (by omega),E3 hv (by omega)⟩
theorem Kp(l:List Ln):Fn G2 T_ 6 [.slice (ls l)] (.bool true):=by
 refine ag hm uR (by simp) ?_;have hS:=up (O5 l);simp[oM];refine aa hS ?_;cases h0:pJ l with
 |false=>
  simp(disch:=omega)[wl];refine aa uv ?_;simp
 |true=>
  obtain⟨hl,hf⟩:=Lq h0;have hv:=LM h0;by_cases h1:24<l.length
  ·simp(disch:=omega)[wl,bt,h1];refine aa uv ?_;simp
  have hO:=up (Te l (by omega) hf);simp(disch:=omega)[wl,bt,h1];refine aa hO ?_;simp;have hR1:=oL l hf hv (by omega);refine aa hR1 ?_;cases hr:kS l with
  |no e p=>
   obtain⟨t,v,hv1⟩:=dg e [(p:Int)];simp only[Kj,hv1,Fc.iv,zf,cells,List.cons_append,List.nil_append];simp(disch:=omega)[wl];refine aa uv ?_;simp
  |ok f=>
   have hF:=E5 hv hr;simp only[Kj,Fc.iv,zf,cells,List.cons_append,List.nil_append];cases hrd:f.rd with
   |false=>
    simp(disch:=omega)[wl];refine aa uv ?_;simp
   |true=>
    have H:=MP hr hrd;have hA:=RP l f hf hv (by omega) hr hrd H.hb H.he H.hd;have hra:=LP hr hrd;obtain⟨mf,mv⟩:=OK (f:=f) hf hv;have hlen:=(yA.1 hra).1;have hR2:=oL (pS f l) mf mv (by omega);rw[hra]at hR2;have hG:=E5 mv hra;have hD1:=DV f hF;have hD2:=DV (dF f) hG;rw[(E7 H hrd).2]at hD2;rw[show dX f=((dX f).1,true) by rw[<-H.hd]]at hD1;have hI:=BH f;obtain⟨e',ee⟩:∃e',(dF f).e=e':=⟨_,rfl⟩;have hal:dF f = {f with b:=⟨f.b.k,bD f⟩,e:=e',rd:=false,ru:=Oa,i:=[],o:=[],at':=yy,af:=false }:=by rw[<-ee];rfl
    rw[hal]at hR2 hD2;simp only[Kj,Fc.iv,zf,cells,List.cons_append,List.nil_append,hrd]at hR2 hD1 hD2 hI;simp(disch:=omega)[wl];refine aa hA ?_;simp;refine aa hR2 ?_;simp;refine aa hD1 ?_;simp;refine aa hD2 ?_;simp;refine aa hI ?_;simp;refine aa uv ?_;simp;rfl
theorem VtodoAlone_true(args:List IV)(h:SG [.slice scL] args):Fn G2 T_ 6 args (.bool true):=by
 obtain⟨v,b,rfl,⟨r0,hr0,_,h0⟩,hd⟩:=h;have hd:b=[]:=hd;subst hd;simp only[List.cons.injEq,and_true]at hr0;subst hr0;obtain⟨l,rfl⟩:=lines_of h0;exact Kp l
end Go.Vs.YtcjeehebikeghaaGreatDoor.Vt
