/- A part of a proof. No conditions. -/
import Derived.Test.YtnhbiolfmeeniaaGreatDoorXJz
set_option linter.all false
namespace Go.Vs.Y.Vt
open Go.Vs.Cv Go.Vs.Nu Go.Vs.Mo Go.Vs.Y.Rc
theorem RZ{d g:Type}{f:d->List g}{l:List d}(h:l.Nodup)(i:∀a∈l,(f a).Nodup)(j:∀a∈l,∀b∈l,∀x,x∈f a->x∈f b->a=b):(l.flatMap f).Nodup:=by
 refine List.pairwise_flatMap.2 ⟨i,?_⟩;refine List.Pairwise.imp_of_mem (fun {a b} k m c x n y o e=>?_) h;exact c (j a k b m x n (e▸o))
theorem MA{d g:Type}{f:d->g}{l:List d}(i:l.Nodup)(h:∀a∈l,∀b∈l,f a=f b->a=b):(l.map f).Nodup:=by
 refine List.pairwise_map.2 ?_;exact List.Pairwise.imp_of_mem (fun {a b} j k c e=>c (h a j b k e)) i
theorem ad5(A:List Int)(x:Int):(Mt A x).Perm (x::A):=by
 have e:=congrArg List.reverse (List.takeWhile_append_dropWhile (p:=fun z=>decide (x<z)) (l:=A.reverse));rw[List.reverse_append,List.reverse_reverse]at e;unfold Mt;refine List.perm_middle.trans ?_;rw[e]
theorem sort_perm(l:List Int):(mV l).Perm l:=by
 induction l using PS with
 |b=>exact List.Perm.refl _
 |c l x a=>rw[xY];exact(ad5 _ x).trans ((a.cons x).trans (List.perm_append_singleton x l).symm)
theorem ad6(a n:Nat):((List.range n).map (a + ·)).Nodup:=MA List.nodup_range fun x _ y _ h=>by omega
theorem WT{l:List Int}{told:Bool}{st:Int}{all:Nat}(h:l.Nodup):(u9 (Iq l told st all).1 (Iq l told st all).2).Nodup:=by
 unfold Iq u9;split
 .simpa using ((sort_perm l).nodup_iff.2 h)
 split
 .simp
 simp only[List.append_nil];exact MA List.nodup_range fun x _ y _ h=>by omega
structure NdR(r:Ru):Prop where
 n4:r.l4.Nodup
 n5:r.l5.Nodup
 n6:r.l6.Nodup
 a4:∀n∈r.l4,0<=n/\n<=59
 a5:∀n∈r.l5,0<=n/\n<=59
 a6:∀n∈r.l6,0<=n/\n<=23
theorem agC{x:Tm}(p:(u9 x.h x.ah).Nodup)(q:(u9 x.m x.am).Nodup)(u:(u9 x.s x.as').Nodup)(E:∀n∈u9 x.h x.ah,0<=n/\n<=23)(v:∀n∈u9 x.m x.am,0<=n/\n<=59)(w:∀n∈u9 x.s x.as',0<=n/\n<=59):(i6 x).Nodup:=by
 have ms:∀h m t,t∈sT x h m->∃s,0<=s/\s<=59/\t=h*3600+m*60+s:=fun h m t c=>by
  unfold sT at c;obtain⟨s,y,e⟩:=List.mem_map.1 (List.mem_filter.1 c).1;have:=w s y;exact⟨s,this.1,this.2,e.symm⟩
 have k:∀h t,t∈mT x h->∃m s,0<=m/\m<=59/\0<=s/\s<=59/\t=h*3600+m*60+s:=fun h t c=>by
  unfold mT at c;obtain⟨m,hm,c⟩:=List.mem_flatMap.1 c;have:=v m hm;obtain⟨s,d,f,g⟩:=ms h m t c;exact⟨m,s,this.1,this.2,d,f,g⟩
 have o:∀h t,t∈hT x h->t∈mT x h:=fun h t c=>by
  unfold hT at c;split at c
  .simp at c
  exact c
 unfold i6;refine RZ p (fun h _=>?_) fun a z b A t i j=>?_
 .unfold hT;split
  .simp
  unfold mT;refine RZ q (fun m _=>?_) fun a z b A t i j=>?_
  .unfold sT;exact List.Pairwise.filter _ (MA u fun a _ b _ e=>by omega)
  obtain⟨s,d,f,g⟩:=ms h a t i;obtain⟨B,C,D,F⟩:=ms h b t j;omega
 obtain⟨m,s,d,f,g,C,D⟩:=k a t (o a t i);obtain⟨H,B,I,J,K,L,M⟩:=k b t (o b t j);omega
theorem ahg{r:Ru}(h:NdR r)(s:Nat)(a to:Int):(i6 (Bc r s a to)).Nodup:=by
 have b:=AW (l:=r.l6) (told:=decide (3<=r.f)) (st:=((s%86400/3600:Nat):Int)) (all:=24) (hi:=23) h.a6 (by omega) (by omega);have c:=AW (l:=r.l5) (told:=decide (2<=r.f)) (st:=((s%86400/60%60:Nat):Int)) (all:=60) (hi:=59) h.a5 (by omega) (by omega);have d:=AW (l:=r.l4) (told:=decide (1<=r.f)) (st:=((s%86400%60:Nat):Int)) (all:=60) (hi:=59) h.a4 (by omega) (by omega);exact agC (WT h.n6) (WT h.n5) (WT h.n4) b.1 c.1 d.1
theorem agD(r:Ru)(s i:Nat):(uY r s i).Nodup:=List.Pairwise.filter _ (ad6 _ _)
theorem aiJ{r:Ru}{s i:Nat}(h:PerI r s i)(c:NdR r):(wa r s i).Nodup:=by
 unfold wa;split
 .simp
 unfold secs
 have f:(gB r s i).Nodup:=by
  unfold gB;split
  .simp
  unfold WK;split
  .exact ahg c _ _ _
  exact ahg c _ _ _
 refine RZ (agD r s i) (fun d _=>MA f fun a _ b _ e=>by omega) fun a _ b _ t g j=>?_
 obtain⟨y,k,rfl⟩:=List.mem_map.1 g;obtain⟨z,l,e⟩:=List.mem_map.1 j;have:=AX h k;have:=AX h l;omega
theorem ad7(n:Nat)(l:List Int):(qQ n l).Nodup:=by
 induction l using PS with
 |b=>simp[qQ]
 |c l x c=>
  rw[xZ];unfold m4;split
  .next h=>
   rw[List.nodup_append];exact⟨c,by simp,fun a d b f e=>by rw[List.mem_singleton.1 f]at e;exact h.2.2 (e▸d)⟩
  exact c
theorem ajG{r:Ru}{s i:Nat}(h:PerI r s i)(l:NdR r):(PT r s i).Nodup:=by
 have g:=aiJ h l;unfold PT;split
 .exact g
 have j:=H9 (wa r s i).length r.l12;refine MA ((sort_perm _).nodup_iff.2 (ad7 _ _)) fun a p b q e=>?_
 have m:=j a ((AB a _).1 p);have n:=j b ((AB b _).1 q);have c:a.toNat<(wa r s i).length:=by omega
 have d:b.toNat<(wa r s i).length:=by omega
 rw[List.getD_eq_getElem?_getD,List.getD_eq_getElem?_getD,List.getElem?_eq_getElem c,List.getElem?_eq_getElem d]at e;simp only[Option.getD_some]at e;have k:=List.pairwise_iff_getElem.1 g
 have:a.toNat=b.toNat:=by
  rcases Nat.lt_trichotomy a.toNat b.toNat with h|h|h
  .exact absurd e (k _ _ c d h)
  .exact h
  exact absurd e.symm (k _ _ d c h)
 omega
theorem wV(x:Wlk):∀(ts:List Int) (a:Int) (m:List Int),∃Y,(dj x ts a m).2.2=m++Y/\Y.Sublist ts
 |[],a,m=>⟨[],by simp[dj],List.Sublist.refl _⟩
 |t::ts,a,m=>by
  unfold dj;split
  .obtain⟨Y,h,s⟩:=wV x ts a m;exact⟨Y,h,s.cons t⟩
  split
  .exact⟨[],by simp,List.nil_sublist _⟩
  split
  .split
   .exact⟨[t],rfl,List.Sublist.cons_cons t (List.nil_sublist ts)⟩
   split
   .exact⟨[t],rfl,List.Sublist.cons_cons t (List.nil_sublist ts)⟩
   obtain⟨Y,h,s⟩:=wV x ts (a-1) (m++[t]);exact⟨t::Y,by rw[h];simp,s.cons_cons t⟩
  split
  .exact⟨[],by simp,List.nil_sublist _⟩
  obtain⟨Y,h,s⟩:=wV x ts (a-1) m;exact⟨Y,h,s.cons t⟩
theorem aiK{l:List Int}{n:Int}(h:l.Nodup)(c:∀t∈l,t=n):l=[]\/l=[n]:=by
 cases l with
 |nil=>exact .inl rfl
 |cons a r=>
  cases r with
  |nil=>rw[c a (by simp)];exact .inr rfl
  |cons b r=>
   have e:a=b:=by rw[c a (by simp),c b (by simp)]
   simp[e]at h
theorem aas(x:Wlk){n:Int}(g:x.fr=n)(i:x.to=n+1){ts:List Int}(c:ts.Nodup)(a:Int)(m:List Int):(dj x ts a m).2.2=m\/((dj x ts a m).2.2=m++[n]/\n∈ts):=by
 obtain⟨Y,e,s⟩:=wV x ts a m;obtain⟨Z,b,d⟩:=pV x ts a m;have:Y=Z:=by rw[e]at b;exact List.append_cancel_left b
 subst this;rcases aiK (n:=n) (s.nodup c) (fun t f=>by have:=d t f;omega)with h|h
 .rw[e,h];exact .inl (by simp)
 rw[e,h];exact .inr ⟨rfl,s.subset (by rw[h];simp)⟩
theorem UJ(x:Wlk){n:Int}(g:x.fr=n)(o:x.to=n+1)(A:1<=x.k)(p:∀i,(x.of i).Nodup)(s:∀i j,n∈x.of i->n∈x.of j->i=j):∀(k i:Nat) (a u:Int) (m:List Int),(m=[]\/(m=[n]/\∀j,i<=j->n∉x.of j))->(wc x k i a u m).2.2=[]\/(wc x k i a u m).2.2=[n]
 |0,i,a,u,m,h=>by
  show m=[]\/m=[n];rcases h with h|h
  .exact .inl h
  exact .inr h.1
 |k+1,i,a,u,m,h=>by
  have hm:m=[]\/m=[n]:=by
   rcases h with h|h
   .exact .inl h
   exact .inr h.1
  unfold wc;split
  .exact hm
  split
  .exact hm
  split
  .exact hm
  have v:=aas x g o (p i) a m;obtain⟨⟨c,l,b⟩,e⟩:=A_ (dj x (x.of i) a m);rw[e]at v |-
  have y:b=[]\/(b=[n]/\∀j,i+x.k<=j->n∉x.of j):=by
   rcases v with q|⟨q,z⟩
   .have q:b=m:=q;rw[q];rcases h with h|h
    .exact .inl h
    exact .inr ⟨h.1,fun j B=>h.2 j (by omega)⟩
   have q:b=m++[n]:=q;rcases h with h|h
   .exact .inr ⟨by rw[q,h];rfl,fun j B d=>by have:=s i j z d;omega⟩
   exact absurd z (h.2 i (Nat.le_refl _))
  cases c with
  |true=>
   show b=[]\/b=[n];rcases y with h|h
   .exact .inl h
   exact .inr h.1
  |false=>exact UJ x g o A p s k _ _ _ b y
theorem ajH{r:Ru}(h:cT r=0):NdR r:=by
 obtain⟨-,b,-⟩:=ei h;have c:=dw (b 4 (by decide));have d:=dw (b 5 (by decide));have e:=dw (b 6 (by decide));refine⟨c.2.1,d.2.1,e.2.1,fun n a=>?_,fun n a=>?_,fun n a=>?_⟩
 .have q:=c.2.2 n a;have g:(n.natAbs:Int)<=59:=q.2.2;have:=q.1 rfl;omega
 .have q:=d.2.2 n a;have g:(n.natAbs:Int)<=59:=q.2.2;have:=q.1 rfl;omega
 have q:=e.2.2 n a;have g:(n.natAbs:Int)<=23:=q.2.2;have:=q.1 rfl;omega
theorem agE{b:Mom}{r:Ru}{i o:List Mom}{n e:Int}(h:WkF (oc b r i o n e))(y:cT r=0):(mW (oc b r i o n e)).2.2=[]\/(mW (oc b r i o n e)).2.2=[n]:=by
 have l:=ajH y;have D:0<=r.f/\r.f<=6:=h.k.s.f;have E:0<=r.w/\r.w<=6:=h.k.s.w;have m:1<=r.i/\r.i<=1000:=h.k.i;have F:0<=b.s/\b.s<=315537897599:=h.s
 have p:∀j,((px (oc b r i o n e)).of j).Nodup:=fun j=>by
  show(if dK r.f.toNat r.w.toNat 0<=j/\j<=dZ r.f.toNat r.w.toNat then PT r b.s.toNat j else []).Nodup;split
  .next q=>exact ajG ⟨h.k,by unfold ff;omega,q.1,q.2⟩ l
  simp
 have z:∀a c,n∈(px (oc b r i o n e)).of a->n∈(px (oc b r i o n e)).of c->a=c:=fun a c A s=>by
  have k:∀d,n∈(px (oc b r i o n e)).of d->dK r.f.toNat r.w.toNat n.toNat=d:=fun d B=>by
   obtain⟨u,C,v,x⟩:=WP h B;have g:=AC (f:=r.f.toNat) (w:=r.w.toNat) (i:=d) (by omega) (by omega) u C;have v:((iF r.f.toNat r.w.toNat d).1:Int)<=n:=v;have x:n<((iF r.f.toNat r.w.toNat d).2:Int):=x;exact XZ (by omega) (by omega) u (by unfold ff;omega) (by omega) (by omega)
  rw[<-k a A,<-k c s]
 unfold mW;split
 .exact .inl rfl
 exact UJ _ rfl rfl (by show 1<=r.i.toNat;have:1<=r.i:=m.1;omega) p z _ _ _ _ _ (.inl rfl)
open Go.Vs.Vt
theorem UK(x:Wlk){t:Int} : ∀(k i:Nat) (a u:Int) (m:List Int),t∈(wc x k i a u m).2.2->t∈m\/∃j,t∈x.of j
 |0,i,a,u,m,h=>.inl h
 |k+1,i,a,u,m,h=>by
  unfold wc at h;split at h
  .exact .inl h
  split at h
  .exact .inl h
  split at h
  .exact .inl h
  obtain⟨Y,b,f⟩:=wV x (x.of i) a m;obtain⟨⟨c,l,d⟩,e⟩:=A_ (dj x (x.of i) a m);rw[e]at h b;have b:d=m++Y:=b
  have hm:t∈d->t∈m\/∃j,t∈x.of j:=fun q=>by
   rw[b]at q;rcases List.mem_append.1 q with q|q
   .exact .inl q
   exact .inr ⟨i,f.subset q⟩
  cases c with
  |true=>exact hm h
  |false=>
   rcases UK x k _ _ _ d h with q|q
   .exact hm q
   exact .inr q
theorem UL(x:Wlk):∀(k i:Nat) (a u:Int) (m:List Int),(wc x k i a u m).1=0\/(wc x k i a u m).1=13
 |0,i,a,u,m=>.inl rfl
 |k+1,i,a,u,m=>by
  unfold wc;split
  .exact .inl rfl
  split
  .exact .inl rfl
  split
  .exact .inr rfl
  obtain⟨⟨c,l,b⟩,e⟩:=A_ (dj x (x.of i) a m);rw[e];cases c with
  |true=>exact .inl rfl
  |false=>exact UL x k _ _ _ b
theorem agF(x:WkA):(mW x).1=0\/(mW x).1=13:=by
 unfold mW;split
 .exact .inl rfl
 exact UL _ _ _ _ _ _
theorem agG{x:WkA}{t:Int}(h:t∈(mW x).2.2):∃j,t∈(px x).of j:=by
 unfold mW at h;split at h
 .simp at h
 rcases UK _ _ _ _ _ _ h with q|q
 .simp at q
 exact q
theorem ad8(b:Mom)(r:Ru)(i o:List Mom)(after bud:Int):(py b r i o after bud).2.2=0\/(py b r i o after bud).2.2=13:=by
 unfold py;simp only;split
 .exact agF _
 split<;>exact .inl rfl
theorem MB{l:List Int}{a:Bool}{b:Nat}{n:Int}(c:l=[])(d:a=true)(h:n∈u9 (Iq l a 0 b).1 (Iq l a 0 b).2):n=0:=by
 subst c d;simpa[Iq,u9]using h
theorem aat{r:Ru}{s i:Nat}{y:Int}(f:3<=r.f)(g:r.l4=[])(j:r.l5=[])(k:r.l6=[])(n:s%86400=0)(a:y∈gB r s i):y=0:=by
 unfold gB at a;rw[if_neg (by omega)]at a;unfold WK at a;rw[if_pos f]at a;unfold i6 at a;obtain⟨h,b,a⟩:=List.mem_flatMap.1 a
 have a:y∈mT (Bc r s 0 86400) h:=by
  unfold hT at a;split at a
  .simp at a
  exact a
 unfold mT at a;obtain⟨m,d,a⟩:=List.mem_flatMap.1 a;unfold sT at a;obtain⟨c,e,rfl⟩:=List.mem_map.1 (List.mem_filter.1 a).1;have e1:((s%86400/3600:Nat):Int)=0:=by omega
 have e2:((s%86400/60%60:Nat):Int)=0:=by omega
 have l:((s%86400%60:Nat):Int)=0:=by omega
 unfold Bc at b d e;simp only at b d e;rw[e1]at b;rw[e2]at d;rw[l]at e;have:=MB k (by simp;omega) b;have:=MB j (by simp;omega) d;have:=MB g (by simp;omega) e;omega
theorem PY{k:Int} : ∀ {l:List Mom},jH k l=0->∀v∈l,dm v=0/\v.k=k
 |[],_,v,a=>by simp at a
 |x::l,h,v,a=>by
  unfold jH at h;split at h
  .next q=>exact absurd h q
  next q=>
  split at h
  .simp at h
  next b=>
  rcases List.mem_cons.1 a with rfl|a
  .exact⟨by simpa using q,by simpa using b⟩
  exact PY h v a
theorem UM{b:Mom}{r:Ru}{i o:List Mom}{after bud n:Int}(u:WkF (yx b r i o after bud))(a:kC b r i o=0)(p:b.k=1)(h:py b r i o after bud=(n,true,0)):n%86400=0:=by
 unfold kC at a;split at a
 .next q=>exact absurd a q
 next w=>
 split at a
 .next q=>exact absurd a q
 split at a
 .simp at a
 split at a
 .simp at a
 next k=>
 split at a
 .simp at a
 split at a
 .next q=>exact absurd a q
 next x=>
 have k:¬(r.f<3\/0<r.l6.length\/0<r.l5.length\/0<r.l4.length):=fun q=>k ⟨p,q⟩
 simp only[not_or]at k;have l:=iI.1 (show dm b=0 by simpa using w);have m:jH b.k i=0:=by simpa using x
 have z:=wU u h;unfold py at h;simp only at h;split at h
 .simp at h
 split at h
 .simp at h
 have g:FY o (iH after o i) (mW (yx b r i o after bud)).2.2=n:=by simpa using h
 have f:iH after o i=n->n%86400=0:=fun e=>by
  rcases RV after o i with q|⟨v,A,D,-,-⟩
  .have:=z.2.1;omega
  have:=PY m v A;have:=iI.1 this.1;have:=this.2.2.2.2 (by omega);omega
 unfold FY at g;split at g
 .next t B=>
  split at g
  .subst g;obtain⟨j,c⟩:=agG (List.mem_of_getLast? B);have c:t∈(if dK r.f.toNat r.w.toNat 0<=j/\j<=dZ r.f.toNat r.w.toNat then PT r b.s.toNat j else []):=c;split at c
   .have c:=WL c;unfold wa at c;split at c
    .simp at c
    unfold secs at c;obtain⟨d,-,c⟩:=List.mem_flatMap.1 c;obtain⟨y,C,rfl⟩:=List.mem_map.1 c;have:=l.2.2.2.2 p;have:=aat (by omega) (List.length_eq_zero_iff.1 (by omega)) (List.length_eq_zero_iff.1 (by omega)) (List.length_eq_zero_iff.1 (by omega)) (by omega) C;omega
   simp at c
  exact f g
 exact f g
open Go.Lib Go.Vs.U8 Go.Vs.Pa
theorem WU{k s:Int}(a:1<=k/\k<=3)(b:0<=s/\s<=315537897599):Rc.atM k s=(⟨k,if k=1 then s-s%86400 else s⟩,0):=by
 unfold Rc.atM Dk;rw[if_neg (show ¬(k<1\/3<k) by omega),if_neg (show ¬(s<0\/315537897599<s) by omega),if_neg (by simp)]
theorem WV{k s:Int}(a:1<=k/\k<=3)(b:0<=s/\s<=315537897599):dm ⟨k,if k=1 then s-s%86400 else s⟩=0:=by
 refine iI.2 ⟨a.1,a.2,?_,?_,fun q=>?_⟩
 .simp only;split<;>omega
 .simp only;split<;>omega
 have q:k=1:=q;simp only;rw[if_pos q];omega
theorem PZ{f:Fc}(h:FitF f){v:Mom}(b:0<=v.k):FitS v {f.ru with c:=0 } [] f.o:=by
 obtain⟨j,d,k,e,l,g,i⟩:=h.set;exact⟨b,d,by simp,e,by simp,g,i⟩
structure NextN(f:Fc)(t:Int)(a c:Mom):Prop where
 new:NewH f a c
 one:¬(f.af=true/\f.ru.c=1)
 aft:f.af=true->c.s<=t/\t-c.s<86400/\c.s<a.s/\kC c {f.ru with c:=0 } [] f.o=0/\py c {f.ru with c:=0 } [] f.o c.s 4000=(a.s,true,0)
 sch:f.af=false->c=f.b/\dN f<a.s/\py f.b f.ru f.i f.o (dN f) 4000=(a.s,true,0)
theorem aau{l:List Ln}{f:Fc}{t:Int}(h:gK l=.ok f)(C:FitF f)(p:f.rd=true)(M:0<=t/\t<=315537897599):((pX f t 4000).2.2.2=0\/(pX f t 4000).2.2.2=13)/\((pX f t 4000).2.2.1=true->(pX f t 4000).2.2.2=0/\NextN f t (pX f t 4000).1 (pX f t 4000).2.1):=by
 have A:=y3 h p;have N:=WR h C
 have D:dm f.b=0:=by
  have:=A.s;unfold kC at this;split at this
  .next q=>exact absurd this q
  next q=>simpa using q
 have O:=iI.1 D;have y:1<=f.b.k/\f.b.k<=3:=⟨O.1,O.2.1⟩;have Q:=WU y M;have m:=WV y M;obtain⟨P,b⟩:=A_ (pX f t 4000);rw[b];unfold pX at b;rw[if_neg (by simp[p]),Q]at b;simp only[ne_eq,not_true_eq_false,if_false]at b;obtain⟨v,u⟩:∃v:Mom,(⟨f.b.k,if f.b.k=1 then t-t%86400 else t⟩:Mom)=v:=⟨_,rfl⟩;have E:v.k=f.b.k:=by rw[<-u]
 have F:v.s<=t/\t-v.s<86400:=by
  rw[<-u];simp only;split<;>omega
 rw[u]at b m;have R:=iI.1 m;by_cases J:f.af=true/\f.ru.c=1
 .rw[if_pos J]at b;subst b;exact⟨.inl rfl,fun q=>by cases q⟩
 rw[if_neg J]at b
 have S:(uo f v 4000).2.2=0\/(uo f v 4000).2.2=13:=by
  unfold uo;split<;>exact ad8 _ _ _ _ _ _
 by_cases H:(uo f v 4000).2.2=0
 .rw[if_neg (by simp[H])]at b;by_cases j:(uo f v 4000).2.1=false\/(jk f (uo f v 4000).1).2=false
  .rw[if_pos j]at b;subst b;exact⟨.inl rfl,fun q=>by cases q⟩
  rw[if_neg j]at b;simp only[not_or]at j;obtain⟨⟨n,w,e⟩,k⟩:=A_ (uo f v 4000);rw[k]at H j b;obtain⟨j,z⟩:=j;simp only at H j z b;have j:w=true:=by simpa using j
  have z:(jk f n).2=true:=by simpa using z
  subst H j
  have o:n+di f<=315537897599:=by
   unfold jk at z;split at z
   .simp at z
   next q=>simp only[not_or]at q;omega
  unfold uo at k;cases d:f.af with
  |true=>
   rw[if_pos d]at k;have B:=N.aft p v m E;have I:=(wT (after:=v.s) (bud:=4000) (PZ C (by omega)) C.rk B (by omega) (by omega)).1;have K:=wU I k;have L:v.k=1->n%86400=0:=fun q=>UM I B q k
   have g:=WU y (s:=n) (by omega)
   have x:(if f.b.k=1 then n-n%86400 else n)=n:=by
    split
    .next q=>have:=L (by omega);omega
    rfl
   have i:=WV y (s:=n) (by omega);rw[x]at g i;rw[g,if_pos d]at b;subst b;exact⟨.inl rfl,fun _=>⟨rfl,⟨i,rfl,m,E,o,fun _=>by show v.s<=n;omega,fun q=>(by rw[d]at q;cases q)⟩,J,fun _=>⟨F.1,F.2,K.1,B,k⟩,fun q=>(by rw[d]at q;cases q)⟩⟩
  |false=>
   rw[if_neg (by simp[d])]at k;have B:=A.s;have V:=N.ins;have I:=(wT (after:=dN f) (bud:=4000) C.set C.rk B (by omega) (by omega)).1;have K:=wU I k;have L:f.b.k=1->n%86400=0:=fun q=>UM I B q k
   have g:=WU y (s:=n) (by omega)
   have x:(if f.b.k=1 then n-n%86400 else n)=n:=by
    split
    .next q=>have:=L (by omega);omega
    rfl
   have i:=WV y (s:=n) (by omega);rw[x]at g i;rw[g,if_neg (by simp[d])]at b;subst b;have U:=A.a.ib;exact⟨.inl rfl,fun _=>⟨rfl,⟨i,rfl,D,rfl,o,fun q=>(by rw[d]at q;cases q),fun _=>by show f.b.s<=n;omega⟩,J,fun q=>(by rw[d]at q;cases q),fun _=>⟨rfl,K.1,k⟩⟩⟩
 rw[if_pos H]at b;subst b;exact⟨S,fun q=>by cases q⟩
theorem agH{b:Mom}{r:Ru}{i o:List Mom}{n a:Int}(g:FitS b r i o)(e:0<=r.f)(h:kC b r i o=0)(k:0<=n/\n<=315537897599)(f:0<=a/\a<=4000):WkF (oc b r i o n a)/\i.length<=12/\o.length<=12:=by
 obtain⟨c,l,m⟩:=wT (after:=n) g e h (by omega) f;exact⟨⟨c.k,c.s,⟨k.1,by show n<=_;omega⟩,⟨by show 0<=n+1;omega,by show n+1<=_;omega⟩,f,c.c,c.i,c.o,c.p⟩,l,m⟩
def DG(i:List Mom)(n:Int):Nat:=(i.filter fun v=>decide (v.s=n)).length
theorem aav(i:List Mom)(v:Mom)(n:Int):DG (i++[v]) n=if v.s=n then DG i n+1 else DG i n:=by
 unfold DG;rw[List.filter_append];by_cases h:v.s=n<;>simp[h]
theorem Yd(i:List Mom)(n:Int):DG i n<=i.length:=List.length_filter_le _ _
def WW(b:Mom)(r:Ru)(i o:List Mom)(n a:Int):List Int×Int×Int:=
 if (mW (oc b r i o n a)).1≠0 then ([],0,(mW (oc b r i o n a)).1)
 else (if (mW (oc b r i o n a)).2.2.length+DG i n=0 then []else [n],(mW (oc b r i o n a)).2.1,0)
def UN(b:Mom)(r:Ru)(i o:List Mom)(n bud:Int):Bool×Int:=(decide (0<(WW b r i o n bud).1.length),(WW b r i o n bud).2.2)
theorem ad9{b:Mom}{r:Ru}{i o:List Mom}{after bud n:Int}(k:WkF (yx b r i o after bud))(h:py b r i o after bud=(n,true,0))(d:(UN b r i o n bud).2=0):(UN b r i o n bud).1=true:=by
 obtain⟨-,-,-,g⟩:=wU k h;unfold UN WW at d |-;obtain⟨⟨E,U,M⟩,l⟩:=A_ (mW (oc b r i o n bud));rw[l]at d g |-;simp only at d g |-;by_cases e:E=0
 .subst e;simp only[ne_eq,not_true_eq_false,if_false]
  have:M.length+DG i n≠0:=by
   rcases g with⟨v,m,j⟩|g
   .have:v∈i.filter fun v=>decide (v.s=n):=List.mem_filter.2 ⟨m,by simpa using j⟩
    have:=List.length_pos_of_mem this;unfold DG;omega
   have:=List.length_pos_of_mem (g rfl);omega
  rw[if_neg this];rfl
 rw[if_pos e]at d;exact absurd d e
theorem aea{l:List Ln}{f:Fc}(h:gK l=.ok f)(i:f.rd=true):(dJ f.ru).length<=200:=by
 obtain⟨_,n,o,_⟩:=mD.1 h;have s:f.ru=fo (bH l) bN (fun x=>Wo x.v) Zv:=by rw[o];rfl
 have d:f.rd=fo (bH l) bN (fun _=>true) false:=by rw[o];rfl
 obtain⟨z,g⟩:∃z,bH l bN=some z:=by
  rw[i]at d;unfold fo at d;cases u:bH l bN with
  |none=>rw[u]at d;cases d
  |some z=>exact⟨z,rfl⟩
 have v:f.ru=Wo z.v:=by rw[s];unfold fo;rw[g]
 have j:bt z=0:=kW n g;have b:ruE z.v=0:=by rw[<-j];have:=qK g;simp[bt,this,nm_]
 have k:iY z.v=.ok f.ru:=by
  rw[v];unfold ruE at b;unfold Wo;cases q:iY z.v with
  |ok r=>rfl
  |no e p=>rw[q]at b;exact absurd b (Lg q).1
 have m:z.v.length<=200:=((Dg z).1 (PX (n.1 z (Jr g)))).2.2.1;exact Nat.le_trans (PJ ahf k) m
theorem aeb{m:List Ln}{n:Str}(h:ec m/\gx 1000 m):ec (dh m n)/\gx 1000 (dh m n):=⟨fun x a=>h.1 x (nR a),fun x a=>h.2 x (nR a)⟩
theorem agI{m:List Ln}{n v:Str}(h:ec m/\gx 1000 m)(a:n.length<100000)(b:v.length<=1000):ec (gb m n v)/\gx 1000 (gb m n v):=⟨Ft h.1 a (by omega),ado h.2 b⟩
theorem akh{m:List Ln}{x:Ln}(h:ec m/\gx 1000 m)(b:FitX x)(d:x.v.length<=1000):ec (kB m x)/\gx 1000 (kB m x):=⟨afq h.1 b,fun y a=>by
 rcases oN a with rfl|a
 .exact d
 exact h.2 y a⟩
theorem aki{f:Fc}{m:List Ln}{c:Mom}(h:ec m/\gx 1000 m)(d:0<f.ru.c->(dJ {f.ru with c:=f.ru.c-1 }).length<=1000):ec (y0 f m c)/\gx 1000 (y0 f m c):=by
 have a:=agI (n:=ba) (v:=dn c) h (by decide) (by have:=kO c;omega)
 have b:ec (if f.e.k≠0 then gb (gb m ba (dn c)) ct (dn ⟨f.e.k,c.s+di f⟩)else gb m ba (dn c))/\gx 1000 (if f.e.k≠0 then gb (gb m ba (dn c)) ct (dn ⟨f.e.k,c.s+di f⟩)else gb m ba (dn c)):=by
  split
  .exact agI a (by decide) (by have:=kO ⟨f.e.k,c.s+di f⟩;omega)
  exact a
 unfold y0;simp only;split
 .next q=>exact agI b (by decide) (d q)
 exact b
theorem aaw{f:Fc}{l:List Ln}{a c:Mom}(h:ec l/\gx 1000 l)(e:0<f.ru.c->(dJ {f.ru with c:=f.ru.c-1 }).length<=1000):ec (kj f l [110] a c)/\gx 1000 (kj f l [110] a c):=by
 have b:ec (gN (gb l bK [110]) 3)/\gx 1000 (gN (gb l bK [110]) 3):=aeb (aeb (aeb (agI h (by decide) (by decide))));have d:=akh b (Yb b.1 a) (by show(dn a).length<=1000;have:=kO a;omega);unfold kj;simp only;split
 .exact aki d e
 exact d
end Go.Vs.Y.Vt
