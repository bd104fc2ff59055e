/- A part of a proof. No conditions. -/
import Derived.Test.YtnhbiolfmeeniaaGreatDoorVCz
set_option linter.all false
set_option maxRecDepth 100000
set_option maxHeartbeats 16000000
namespace Go.Vs.Y.Vt
open Go.Proofs Go.Vs.U8 Go.Vs.Pa Go.Vs.Nu Go.Vs.Vt
def Ab(s:Str)(m:Nat):Nat×Bool:=if GU s m=true then ((R8 (s.drop 1) m).2.1,decide ((R8 (s.drop 1) m).1=[]))else (0,false)
def rK(s:Str):Nat×Bool:=match nA s 87 with
 |some (n,r)=>(n*604800,decide (r=[]))
 |none=>match nA s 68 with
  |some (n,r)=>if r=[]then (n*86400,true)else Ab r (n*86400)
  |none=>Ab s 0
theorem U3(s:Str)(m:Nat):XG s m=if (Ab s m).2=true then some (Ab s m).1 else none:=by
 unfold XG Ab GU
 grind
theorem adc(s:Str):ac4 s=if (rK s).2=true then some (rK s).1 else none:=by
 unfold ac4 rK;cases nA s 87 with
 |some p=>simp
 |none=>
  cases nA s 68 with
  |some p=>
   simp only[];split
   .rfl
   exact U3 ..
  |none=>exact U3 ..
theorem Rk(s:Str)(m:Nat):(R8 s m).2.1<=m+4000000000:=by
 unfold R8;have d:=Pz 72 3600 s m 0;obtain⟨⟨a,b,c⟩,e0⟩:=A_ (tk 72 3600 (s,m,0));rw[e0]at d |-;have e:=Pz 77 60 a b c;obtain⟨⟨f,g,h⟩,e1⟩:=A_ (tk 77 60 (a,b,c));rw[e1]at e |-;have i:=Pz 83 1 f g h;dsimp only at *;omega
theorem ZP(s:Str)(g:s.length<1000000):Fn G2 T_ 139 [.str s] (.tuple [.int .i64 (rK s).1,.bool (rK s).2]):=by
 refine ae hm LQ (by simp) ?_;simp[Ck];have d:=lg s 0 0 87 604800 g (by omega) (by omega) (by omega);cases a:nA s 87 with
 |some p=>
  obtain⟨n,r⟩:=p;have c:rK s=(n*604800,decide (r=[])):=by unfold rK;rw[a]
  rw[Fr a,a]at d;rw[c];refine callM [(1000,4)] [] d rfl rfl ⟨rfl,trivial⟩ ⟨rfl,[],[],rfl,⟨[],[],rfl,rfl,rfl⟩,rfl⟩ rfl ?_;simp(disch:=omega)[wl,G4]
 |none=>
  rw[Co a,a]at d;have f:=lg s 0 0 68 86400 g (by omega) (by omega) (by omega);refine callM [(1000,4)] [] d rfl rfl ⟨rfl,trivial⟩ ⟨rfl,[],[],rfl,⟨[],[],rfl,rfl,rfl⟩,rfl⟩ rfl ?_;simp(disch:=omega)[wl,G4];cases b:nA s 68 with
  |some p=>
   obtain⟨n,r⟩:=p;rw[Fr b,b]at f;have m:=num_len b;refine callM [(1000,4)] [] f rfl rfl ⟨rfl,trivial⟩ ⟨rfl,[],[],rfl,⟨[],[],rfl,rfl,rfl⟩,rfl⟩ rfl ?_;by_cases e:r=[]
   .have c:rK s=(n*86400,true):=by unfold rK;rw[a,b];simp[e]
    rw[c];simp(disch:=omega)[wl,G4,e]
   have c:rK s=Ab r (n*86400):=by unfold rK;rw[a,b];simp[e]
   rw[c];simp(disch:=omega)[wl,G4,e];have i:=PA r (n*86400) 1 (by omega) (by omega) (by omega);have l:=Rk (r.drop 1) (n*86400);have j:GU r (n*86400)=true->Rj r (n*86400) 1=R8 (r.drop 1) (n*86400):=fun h=>by unfold GU at h;simp at h;unfold Rj;rw[if_pos (by simp[h])]
   refine callM [(1000,4)] [] (i) rfl rfl ⟨by simp[ac,G4,Ob.ren,SV.ren,Vs.ren],trivial⟩ ⟨rfl,rfl⟩ rfl ?_;unfold Ab;cases k:GU r (n*86400)with
   |true=>
    rw[j k];simp(disch:=omega)[wl,G4]
   |false=>
    simp(disch:=omega)[wl,G4]
  |none=>
   rw[Co b,b]at f;have c:rK s=Ab s 0:=by unfold rK;rw[a,b]
   rw[c];refine callM [(1000,4)] [] f rfl rfl ⟨rfl,trivial⟩ ⟨rfl,[],[],rfl,⟨[],[],rfl,rfl,rfl⟩,rfl⟩ rfl ?_;simp(disch:=omega)[wl,G4];have i:=PA s 0 0 g (by omega) (by omega);have l:=Rk (s.drop 1) 0;have j:GU s 0=true->Rj s 0 0=R8 (s.drop 1) 0:=fun h=>by unfold GU at h;simp at h;unfold Rj;rw[if_pos (by simp[h])]
   refine callM [(1000,4)] [] (i) rfl rfl ⟨by simp[ac,G4,Ob.ren,SV.ren,Vs.ren],trivial⟩ ⟨rfl,rfl⟩ rfl ?_;unfold Ab;cases k:GU s 0 with
   |true=>
    rw[j k];simp(disch:=omega)[wl,G4]
   |false=>
    simp(disch:=omega)[wl,G4]
theorem ade(s:Str):(rK s).1<1000000000000:=by
 unfold rK;cases a:nA s 87 with
 |some p=>have:=num_len a;simp;omega
 |none=>
  cases b:nA s 68 with
  |some p=>
   have:=num_len b;have:=Rk (p.2.drop 1) (p.1*86400);simp only[];split
   .dsimp only;omega
   unfold Ab;split<;>(dsimp only;omega)
  |none=>
   have:=Rk (s.drop 1) 0;simp only[];unfold Ab;split<;>(dsimp only;omega)
theorem Wp(s:Str)(k:s.length<1000000):Fn G2 T_ 92 [.str s] (.tuple [.int .i64 (wG s).1,.int .i64 (wG s).2]):=by
 refine ae hm NL (by simp) ?_;simp[Fp];refine aa (Ri s [45] k (by simp)) ?_;obtain⟨b,c⟩:=A_ (Pv s);have g:b.length<1000000:=by rw[<-c];unfold Pv;split<;>(try rw[List.length_drop])<;>omega
 have e:=Ri b [80] g (by simp);have f:=ZP (b.drop 1) (by rw[List.length_drop];omega);have d:=ade (b.drop 1);have i:=adc (b.drop 1);unfold wG;rw[c];obtain⟨⟨n,o⟩,l⟩:=A_ (rK (b.drop 1));rw[l]at f d i;rw[List.drop_one]at f;rw[i];clear i l;unfold cutP at e |-;rw[adb]at e |-;by_cases h:s[0]?=some 45
 .have c:s.drop 1=b:=by rw[<-c];unfold Pv;rw[if_pos (.inl h)]
  simp[h,c];refine aa e ?_;by_cases a:b[0]?=some 80
  .simp[a];refine aa f ?_;cases o with
   |true=>
    simp at d;simp[lC];refine⟨fun j=>?_,fun j=>?_⟩
    .have:86399913600<n:=by omega
     simp[this,a]
    have:¬86399913600<n:=by omega
    simp(disch:=omega)[wl,this,a,h]
   |false=>simp
  simp[a]
 simp[h];refine aa (ada s [43] k (by simp)) ?_
 have c:U2 s [43]=b:=by
  rw[<-c];unfold Pv U2;rw[adb];by_cases m:s[0]?=some 43<;>simp[h,m]
 simp[c];refine aa e ?_;by_cases a:b[0]?=some 80
 .simp[a];refine aa f ?_;cases o with
  |true=>
   simp at d;simp[lC];refine⟨fun j=>?_,fun j=>?_⟩
   .have:86399913600<n:=by omega
    simp[this,a]
   have:¬86399913600<n:=by omega
   simp(disch:=omega)[wl,this,a,h]
  |false=>simp
 simp[a]
theorem adf(a n:Int):Fn G2 T_ 98 [.int .i64 a,.int .i64 n] (.tuple [.int .i64 (addS a n).1,.int .i64 (addS a n).2]):=by
 refine ae hm TX (by simp) ?_;simp[LO];have c:0<=a->a<=315537897599->-86399913600<=n->n<=86399913600->IntKind.i64.wrap (a+n)=a+n:=fun _ _ _ _=>wrap_i64 (by omega) (by omega)
 obtain⟨w,b⟩:=A_ (IntKind.i64.wrap (a+n));rw[b]at c;unfold addS;simp[lC,b];clear b
 grind
def US(s:Str)(c:UInt8)(u:Nat)(p:Nat×Nat):Nat×Nat:=match nA (s.drop p.1) c with
 |some (n,r)=>(p.1+cnt 6 (s.drop p.1)+1,p.2+n*u)
 |none=>p
def mnI:Option UInt8->IV
 |some c=>.tuple [.int .u8 c.toNat,.bool true]
 |none=>.tuple [.int .u8 0,.bool false]
theorem ag5(c:UInt8)(n:Nat)(a:n<256):c.toNat=n↔c=UInt8.ofNat n:=by
 rw[<-UInt8.toNat_inj];simp[Nat.mod_eq_of_lt a]
theorem adg(c:UInt8):Fn G2 T_ 198 [.int .u8 c.toNat] (mnI (Ly c)):=by
 refine ae hm IM (by simp) ?_;simp[A7];have a:∀n:Nat,n<256->¬c=UInt8.ofNat n->¬c.toNat=n:=fun n l h e=>h ((ag5 c n l).1 e)
 by_cases b:c=78
 .subst b;simp(disch:=omega)[wl,Ly,mnI]
 have m:=a 78 (by omega) b;by_cases f:c=110
 .subst f;simp(disch:=omega)[wl,Ly,mnI]
 have o:=a 110 (by omega) f;by_cases g:c=92
 .subst g;simp(disch:=omega)[wl,Ly,mnI]
 have p:=a 92 (by omega) g;by_cases i:c=59
 .subst i;simp(disch:=omega)[wl,Ly,mnI]
 have q:=a 59 (by omega) i;by_cases j:c=44
 .subst j;simp(disch:=omega)[wl,Ly,mnI]
 have s:=a 44 (by omega) j;simp(disch:=omega)[wl,Ly,mnI,m,o,p,q,s,b,f,g,i,j]
def ptI:PtX->IV
 |.bad p=>.tuple [.str [],.int .i64 0,.int .i64 p]
 |.ok t n=>.tuple [.str t,.int .i64 n,.int .i64 (-1)]
theorem LT(i:Nat)(a:Str):qI [] i a=.ok a i:=by rw[qI]
theorem PB(c:UInt8)(r:Str)(i:Nat)(a:Str):qI (c::r) i a=if c=44 then .ok a i else if c=59 then .bad i else if c=92 then (match r with
  |[]=>.bad i
  |d::q=>match Ly d with
   |some m=>qI q (i+2) (a++[m])
   |none=>.bad i)else qI r (i+1) (a++[c]):=by
 rw[qI.eq_def];cases r<;>rfl
theorem afW(s:Str)(F:s.length<100000):Fn G2 T_ 140 [.str s] (ptI (qI s 0 [])):=by
 refine ae hm LR (by simp) ?_;simp[Cm];refine bx hm [] (fun p:Nat×Str=>[(6,.val (.int .i64 p.1))]) (fun p=>[(5,.box [.selfN 5 223 false,.ownT 1 p.2.length 5]),(1,.arr p.2.length 1 (av p.2))]) (fun p=>p.1<=s.length/\p.2.length<=p.1/\qI s 0 []=qI (s.drop p.1) p.1 p.2) (fun p=>s.length-p.1) (0,[]) ⟨by simp,by simp,rfl⟩ ?_ ?_
 .exact cJ.trans (E6 (k:=5) (d:=5) (t:=223) 1 5 (by simp) (by simp) (by simp[aE,ac]) (by simp[ac]) (by simp)) (an rfl rfl (by simp[St.bld,bj,aE,ac,put,dB,SV.erase]) (by simp[St.bld,bZ,ac,put,cp,fJ,Ob.erase,SV.erase,av]) (by simp[St.bld,bX]))
 rintro⟨i,a⟩ ⟨x,y,o⟩;dsimp only at x y o;rw[o];clear o;simp;by_cases h:i<s.length
 .obtain⟨c,b⟩:=A_ (s[i]);rw[List.drop_eq_getElem_cons h,b,PB];have q:∀n:Nat,n<256->¬c=UInt8.ofNat n->¬c.toNat=n:=fun n z h e=>h ((ag5 c n z).1 e)
  have v:=fun d:UInt8=>upM (qe a.length a d (by omega))
  by_cases j:c=44
  .rw[if_pos j];subst j;simp(disch:=omega)[wl,b];refine callM [(1000,5),(1001,1)] [] (upM (tf a.length a (by omega))) rfl rfl (by simp[gI,de,Vs.ren,ac,Ob.ren,SV.ren]) ⟨rfl,rfl⟩ rfl ?_;simp(disch:=omega)[wl,ptI]
  have A:=q 44 (by omega) j;rw[if_neg j];by_cases l:c=59
  .rw[if_pos l];subst l;simp(disch:=omega)[wl,b,ptI]
  have B:=q 59 (by omega) l;rw[if_neg l];by_cases f:c=92
  .rw[if_pos f];by_cases w:i+1<s.length
   .obtain⟨d,u⟩:=A_ (s[i+1]);rw[List.drop_eq_getElem_cons w,u];have C:=adg d;have D:s[i+1]?=some d:=by rw[List.getElem?_eq_getElem w,u]
    have e4:¬(i:Int)+1=s.length:=by omega
    subst f;have e5:(0:Int)<=(i:Int)+1:=by omega
    simp(disch:=omega)[wl,b,u,e4,e5];refine aa C ?_;cases g:Ly d with
    |none=>simp(disch:=omega)[wl,mnI,ptI,g]
    |some m=>
     simp(disch:=omega)[wl,mnI];refine callM [(1000,5),(1001,1)] [] (v m) rfl rfl ⟨rfl,rfl,trivial⟩ ⟨rfl,_,_,rfl,rfl,rfl⟩ rfl ?_;simp[de];simp(disch:=omega)[wl];refine aj (i+2,a++[m]) ⟨by omega,by simp;omega,by simp[g]⟩ (by omega) ?_;have e7:(i:Int)+1+1=i+2:=by omega
     simp[e7];exact bA
   have e4:(i:Int)+1=s.length:=by omega
   rw[List.drop_eq_nil_of_le (by omega)];subst f;simp(disch:=omega)[wl,b,e4,ptI]
  have E:=q 92 (by omega) f;rw[if_neg f];simp(disch:=omega)[wl,b,A,B,E];refine callM [(1000,5),(1001,1)] [] (v c) rfl rfl ⟨rfl,rfl,trivial⟩ ⟨rfl,_,_,rfl,rfl,rfl⟩ rfl ?_;simp[de];simp(disch:=omega)[wl];refine aj (i+1,a++[c]) ⟨by omega,by simp;omega,rfl⟩ (by omega) ?_;simp;exact bA
 obtain rfl:i=s.length:=by omega
 rw[List.drop_length,LT];simp(disch:=omega)[wl];refine callM [(1000,5),(1001,1)] [] (upM (tf a.length a (by omega))) rfl rfl (by simp[gI,de,Vs.ren,ac,Ob.ren,SV.ren]) ⟨rfl,rfl⟩ rfl ?_;simp(disch:=omega)[wl,ptI]
theorem afX(s:Str):match qI s 0 []with
  |.bad p=>p<s.length
  |.ok t n=>n<=s.length/\t.length<=s.length:=by
 suffices H:∀(k:Nat) (r:Str) (i:Nat) (a:Str),r.length<=k->match qI r i a with
   |.bad p=>p<i+r.length
   |.ok t n=>n<=i+r.length/\t.length<=a.length+r.length by
  have:=H s.length s 0 [] (by omega);simpa using this
 intro k
 induction k with
 |zero=>
  intro r i a b;obtain rfl:r=[]:=List.eq_nil_of_length_eq_zero (by omega);rw[LT];simp
 |succ k e=>
  intro r i a b;cases r with
  |nil=>rw[LT];simp
  |cons c q=>
   simp only[List.length_cons]at b |-;rw[PB];by_cases f:c=44
   .rw[if_pos f];simp
   rw[if_neg f];by_cases g:c=59
   .rw[if_pos g];simp
   rw[if_neg g];by_cases h:c=92
   .rw[if_pos h];cases q with
    |nil=>simp
    |cons d q=>
     simp only[List.length_cons]at b |-;cases hm:Ly d with
     |none=>simp[hm]
     |some m=>
      have:=e q (i+2) (a++[m]) (by omega);simp only[hm];revert this;cases qI q (i+2) (a++[m])<;>simp<;>omega
   rw[if_neg h];have:=e q (i+1) (a++[c]) (by omega);revert this;cases qI q (i+1) (a++[c])<;>simp<;>omega
def unI:UnX->IV
 |.bad p=>.tuple [.str [],dD 4 [(p:Int)]]
 |.ok t=>.tuple [.str t,.nili]
theorem U4(s:Str)(d:s.length<100000):Fn G2 T_ 93 [.str s] (unI (unR s)):=by
 refine ae hm Ds (by simp) ?_;simp[uQ];refine aa (afW s d) ?_;have a:=afX s;unfold unR;cases c:qI s 0 []with
 |bad p=>
  rw[c]at a;dsimp only at a;have b:=up (gQ 4 p);simp(disch:=omega)[wl,ptI,unI];refine aa b ?_;simp(disch:=omega)[wl,unI]
 |ok t n=>
  rw[c]at a;dsimp only at a;by_cases h:n<s.length
  .have b:=up (gQ 4 n);simp(disch:=omega)[wl,ptI,unI,h];refine aa b ?_;simp(disch:=omega)[wl,unI,h]
  simp(disch:=omega)[wl,ptI,unI,h]
def cm:Str->Nat
 |[]=>0
 |c::r=>if c=92 then (match r with
  |[]=>1
  |_::q=>cm q+2)else if c=44 then 0 else cm r+1
open Go.Vs.Mo Go.Vs.Y.Rc
def ms(l:List Mom):List (List IV):=l.map (fun v=>[.int .u8 v.k,.int .i64 v.s])
theorem bP(l:List Mom):(ms l).length=l.length:=by simp[ms]
theorem Rm{l:List Mom}{i:Nat}{v:Mom}(h:i<l.length)(a:l[i]=v):(ms l)[i]?=some [.int .u8 v.k,.int .i64 v.s]:=by
 simp[ms,List.getElem?_eq_getElem h,a]
theorem Wq(k:Int)(v:Mom)(r:List Mom):jH k (v::r)=if dm v≠0 then dm v else if v.k≠k then 11 else jH k r:=rfl
theorem ZQ(k:Int):jH k []=0:=rfl
theorem U5(l:List Mom)(k:Int)(j:l.length<100000)(f:∀v∈l,0<=v.k):Fn G2 T_ 73 [.slice (ms l),.int .u8 k] (.int .i64 (jH k l)):=by
 refine ae hm NJ (by simp) ?_;simp[Fk,bP];refine bx hm [6] (fun i:Nat=>[(10,.val (.int .i64 i))]) (fun _=>[]) (fun i=>i<=l.length/\jH k l=jH k (l.drop i)) (fun i=>l.length-i) 0 ⟨by omega,rfl⟩ ?_ ?_
 .exact bA
 rintro i ⟨m,d⟩;rw[d];clear d;simp[bP];by_cases h:i<l.length
 .obtain⟨v,b⟩:=A_ (l[i]);have g:=Rm h b;have e:=pQ v (f v (b▸List.getElem_mem h));simp only[ma]at e;rw[List.drop_eq_getElem_cons h,b,Wq];simp(disch:=omega)[wl,bP,g];refine aa e ?_;by_cases a:dm v=0
  .by_cases c:v.k=k
   .simp(disch:=omega)[wl,a,c];refine aj (i+1) ⟨by omega,by simp[a,c]⟩ (by omega) ?_;simp;exact bA
   simp(disch:=omega)[wl,a,c]
  simp(disch:=omega)[wl,a]
 obtain rfl:i=l.length:=by omega
 rw[List.drop_length,ZQ];simp(disch:=omega)[wl,bP]
def wI(b:Mom)(r:Ru)(i o:List Mom):IV:=.agg ([.int .u8 b.k,.int .i64 b.s]++(cells r++[.slice (ms i),.slice (ms o)]))
structure FitS(b:Mom)(r:Ru)(i o:List Mom):Prop where
 bk:0<=b.k
 uk:0<=r.u.k
 il:i.length<100000
 ol:o.length<100000
 ik:∀v∈i,0<=v.k
 ok:∀v∈o,0<=v.k
 rf:Do r
theorem is_len(l:List Int):(is l).length=l.length:=by simp[is]
theorem uS{b:Mom}{r:Ru}{i o:List Mom}(h:FitS b r i o):Fn G2 T_ 40 [wI b r i o] (.int .i64 (kC b r i o)):=by
 refine ae hm NH (by simp) ?_;have y:=pQ b h.bk;have z:=wF r h.rf h.uk;have A:=U5 i b.k h.il h.ik;have B:=U5 o b.k h.ol h.ok;have J:=h.il;have K:=h.ol;obtain⟨L,M,N,O,P,Q,D,E,F⟩:=h.rf;unfold Ru.iv cells at z;simp only[ma]at y;obtain⟨R,e⟩:=A_ (kC b r i o);rw[e];unfold kC at e;unfold wI cells;simp[Fg,is_len,bP];refine aa y ?_;by_cases s:dm b=0
 .rw[if_neg (by simp[s])]at e;simp[s];refine aa z ?_;by_cases v:cT r=0
  .rw[if_neg (by simp[v])]at e;simp[v];by_cases u:r.u.k≠0/\r.u.k≠b.k
   .rw[if_pos u]at e;refine uF hm ?_;simp(disch:=omega)[wl,u.1,u.2,e]
   rw[if_neg u]at e;refine Vy hm [] [] (fun _:Unit=>[]) (fun _=>[]) (fun _=>True) ?_ ?_
   .have H:r.u.k=0\/(¬r.u.k=0/\r.u.k=b.k):=by omega
    rcases H with u1|⟨u1,u2⟩
    .simp(disch:=omega)[wl,u1];refine cz () trivial ?_;simp;exact an rfl rfl (by simp[bj,aE,ac,u1]) (by simp[bZ,ac,u1]) (by simp[bX])
    simp(disch:=omega)[wl,u1,u2];refine cz () trivial ?_;simp;exact an rfl rfl (by simp[bj,aE,ac,u2]) (by simp[bZ,ac,u2]) (by simp[bX])
   rintro⟨⟩ -;simp;have I:r.f<3\/(¬r.f<3/\0<r.l6.length)\/(¬r.f<3/\¬0<r.l6.length/\0<r.l5.length)\/(¬r.f<3/\¬0<r.l6.length/\¬0<r.l5.length/\0<r.l4.length)\/(¬r.f<3/\¬0<r.l6.length/\¬0<r.l5.length/\¬0<r.l4.length):=by omega
   obtain⟨t,p⟩:∃t,decide (r.f<3\/0<r.l6.length\/0<r.l5.length\/0<r.l4.length)=t:=⟨_,rfl⟩;refine Vy hm [] [] (fun _:Unit=>[(6,.val (.bool t))]) (fun _=>[]) (fun _=>True) ?_ ?_
   .rcases I with f|⟨f,g⟩|⟨f,g,l⟩|⟨f,g,l,w⟩|⟨f,g,l,w⟩
    .have:t=true:=by rw[<-p];simp[f]
     subst this;simp(disch:=omega)[wl,f,is_len];refine cz () trivial ?_;simp;exact bA
    .have:t=true:=by rw[<-p];simp[f,g]
     subst this;simp(disch:=omega)[wl,f,g,is_len];refine cz () trivial ?_;simp;exact bA
    .have:t=true:=by rw[<-p];simp[f,g,l]
     subst this;simp(disch:=omega)[wl,f,g,l,is_len];refine cz () trivial ?_;simp;exact bA
    .have:t=true:=by rw[<-p];simp[f,g,l,w]
     subst this;simp(disch:=omega)[wl,f,g,l,w,is_len];refine cz () trivial ?_;simp;exact bA
    have:t=false:=by rw[<-p,decide_eq_false_iff_not];omega
    subst this;simp(disch:=omega)[wl,f,g,l,w,is_len];refine cz () trivial ?_;simp;exact bA
   rintro⟨⟩ -
   have c:(if b.k=1/\t=true then 9 else if 12<i.length\/12<o.length then 20 else if jH b.k i≠0 then jH b.k i else jH b.k o)=R:=by
    rw[<-e,<-p];simp only[decide_eq_true_eq]
   clear e;simp;by_cases k:b.k=1/\t=true
   .rw[if_pos k]at c;simp(disch:=omega)[wl,k.1,k.2,c]
   rw[if_neg k]at c;have C:t=false\/(t=true/\¬b.k=1):=by cases t<;>simp_all
   by_cases m:12<i.length\/12<o.length
   .rw[if_pos m]at c;have q:(12:Int)<max (i.length:Int) o.length:=by omega
    rcases C with n|⟨n,x⟩
    .simp(disch:=omega)[wl,n,bP,q,c]
    simp(disch:=omega)[wl,n,x,bP,q,c]
   rw[if_neg m]at c;have q:¬(12:Int)<max (i.length:Int) o.length:=by omega
   rcases C with n|⟨n,x⟩
   .simp(disch:=omega)[wl,n,bP,q];refine aa A ?_;by_cases a:jH b.k i=0
    .rw[if_neg (by simp[a])]at c;simp(disch:=omega)[wl,a];refine aa B ?_;simp(disch:=omega)[wl,c]
    rw[if_pos a]at c;simp(disch:=omega)[wl,a,c]
   simp(disch:=omega)[wl,n,x,bP,q];refine aa A ?_;by_cases a:jH b.k i=0
   .rw[if_neg (by simp[a])]at c;simp(disch:=omega)[wl,a];refine aa B ?_;simp(disch:=omega)[wl,c]
   rw[if_pos a]at c;simp(disch:=omega)[wl,a,c]
  rw[if_pos v]at e;simp(disch:=omega)[wl,v,e]
 rw[if_pos s]at e;simp(disch:=omega)[wl,s,e]
end Go.Vs.Y.Vt
