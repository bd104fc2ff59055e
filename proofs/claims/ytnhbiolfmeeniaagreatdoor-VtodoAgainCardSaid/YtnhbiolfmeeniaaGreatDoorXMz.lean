/- A part of a proof. No conditions. -/
import Derived.Test.YtnhbiolfmeeniaaGreatDoorXLz
set_option linter.all false
set_option maxRecDepth 100000
set_option maxHeartbeats 16000000
namespace Go.Vs.Y.Vt
open Go.Proofs Go.Vs.U8 Go.Vs.Pa Go.Vs.Nu Go.Vs.Mo Go.Vs.Vt Go.Vs.Y.Rc
theorem UP{f:Fc}{a c:Mom}(i:f.af=false->c=f.b):∃j g,jK f a c = {f with uid:=[110],li:=Lz,at':=a,b:=c,e:=j,ru:={f.ru with c:=g } }/\(f.af=true->g=if 0<f.ru.c then f.ru.c-1 else f.ru.c)/\(f.af=false->g=f.ru.c):=by
 by_cases d:f.af=true
 .refine⟨(p7 f c).e,if 0<f.ru.c then f.ru.c-1 else f.ru.c,?_,fun _=>rfl,fun q=>by rw[d]at q;cases q⟩;unfold jK;rw[if_pos d];unfold pf p7;simp only;by_cases h:0<f.ru.c
  .simp only[if_pos h]
  simp only[if_neg h]
 have d:f.af=false:=by simpa using d
 refine⟨f.e,f.ru.c,?_,fun q=>(by rw[d]at q;cases q),fun _=>rfl⟩;unfold jK;rw[if_neg (by simp[d]),i d];rfl
theorem UQ(l:List Ln)(y:Int)(E:0<=y/\y<=18446744073709551615):Fn G2 T_ 3 [.slice (ls l),.int .u64 y] (.bool true):=by
 refine ae hm B8 (by simp) ?_;have hS:=up (Zr l);simp[ud];refine aa hS ?_;cases h0:vz l with
 |false=>
  simp(disch:=omega)[wl];refine aa k9 ?_;simp
 |true=>
  obtain⟨hl,hf⟩:=VY h0;have hv:=WE h0;by_cases h1:23<l.length
  .simp(disch:=omega)[wl,bF,h1];refine aa k9 ?_;simp
  have hO:=up (afp l (by omega) hf);obtain⟨t,ht,d'⟩:∃t,y.tmod 315537897600=t/\0<=t/\t<=315537897599:=⟨_,rfl,by rw[Int.tmod_eq_emod_of_nonneg E.1];omega,by rw[Int.tmod_eq_emod_of_nonneg E.1];omega⟩;simp(disch:=omega)[wl,bF,h1];refine aa hO ?_;simp[ht];have f':IntKind.i64.wrap t=t:=by rw[IntKind.wrap_i64];omega
  try simp only[f']
  have g':=qP l hf hv (by omega);refine aa g' ?_;cases k:gK l with
  |no e p=>
   obtain⟨t,v,h'⟩:=dQ e [(p:Int)];simp only[Ug,h',Fc.iv,B7,cells,List.cons_append,List.nil_append];simp(disch:=omega)[wl];refine aa k9 ?_;simp
  |ok f=>
   have i:=LZ hv k;have j:=adQ f t 4000 (WR k i) (by omega);obtain⟨⟨a,c,w,e⟩,S⟩:=A_ (pX f t 4000);rw[S]at j;simp only[Ug,WO,Fc.iv,B7,cells,List.cons_append,List.nil_append]at j |-;cases d:f.rd with
   |false=>
    unfold pX at S;rw[if_pos d]at S;obtain⟨rfl,rfl,rfl,rfl⟩:mj=a/\mj=c/\false=w/\9=e:=by simpa using S
    rw[d]at j;simp(disch:=omega)[wl];refine aa j ?_;simp(disch:=omega)[wl];refine aa k9 ?_;simp
   |true=>
    have V:=aau k i d d';rw[S]at V;simp only at V;rw[d]at j;simp(disch:=omega)[wl];refine aa j ?_;cases w with
    |false=>
     rcases V.1 with rfl|rfl
     .simp(disch:=omega)[wl];refine aa k9 ?_;simp
     simp(disch:=omega)[wl];refine aa k9 ?_;simp
    |true=>
     obtain⟨i',Q⟩:=V.2 rfl;subst i';have N:=Q.new
     have j':c.s<=a.s:=by
      cases g:f.af with
      |true=>exact N.le g
      |false=>
       have h2:=N.lo g;rw[(Q.sch g).1];exact h2
     have A:=y3 k d;have H:=A.a;have J:=aea k d;have R:AskH f [110] a c:=⟨d,by decide,by decide,N.ha,N.hc,N.hak,N.hck,Q.one,fun _=>by have:=N.far;omega⟩;have U:0<f.ru.c->(dJ {f.ru with c:=f.ru.c-1 }).length<=200:=fun q=>Nat.le_trans (PW q) J
     have z:=WS k i d (by omega) N;obtain⟨mf,mv⟩:=aaw (f:=f) (a:=a) (c:=c) ⟨hf,hv⟩ (fun q=>by have:=U q;omega);have s':=(mD.1 z).1;have M:=adU l f (jK f a c) [110] a c hf hv (by omega) k R (fun q=>ad4 k d N j' q) (fun q=>DD (G1 A.s) ⟨by omega,by omega⟩) (fun q=>by have:=U q;omega) z mf mv (by omega);have n:=qP (kj f l [110] a c) mf mv (by omega);rw[z]at n;have hG:=LZ mv z;have o:=Rn f i;have O:=ais d H.hd;have l':mg f=(dN f+di f,true):=by rw[<-O.1,<-H.hd]
     rw[l']at o;have W:=Yc k d N;have s:=Rn (jK f a c) hG;rw[W.2.1]at s;have u:=Fs f;have x:=Fs (jK f a c);rw[W.2.2]at x;have P:=Jo f;have C:=Jo (jK f a c);obtain⟨e',k',m',n',o'⟩:=UP (f:=f) (a:=a) (c:=c) (fun q=>(Q.sch q).1);rw[m']at n s x C;have p':=RU i;have q':=RY k d;have X:=N.far;have D:=iI.1 N.ha;have t':=iI.1 N.hc;have u':=(iN (ei (G1 A.s)).1).2.2.2;have v':=N.hck;obtain⟨m,r'⟩:=A_ (kj f l [110] a c);rw[r']at M n;obtain⟨L,hL⟩:=A_ (di f);obtain⟨I,hI⟩:=A_ (dN f);rw[hL]at o s p' X q';rw[hL]at O;rw[hI]at o u O;simp only[Ug,Fc.iv,B7,cells,wI,ma,List.cons_append,List.nil_append,d]at M n o s u x P C;simp(disch:=omega)[wl];refine aa M ?_;simp(disch:=omega)[wl];refine aa n ?_;simp(disch:=omega)[wl];refine aa o ?_;simp(disch:=omega)[wl];refine aa s ?_;simp(disch:=omega)[wl];refine aa x ?_;simp(disch:=omega)[wl];refine aa u ?_;simp(disch:=omega)[wl];refine aa XM ?_;simp(disch:=omega)[wl];refine aa x ?_;simp(disch:=omega)[wl];refine⟨rfl,?_⟩;cases g:f.af with
     |false=>
      obtain⟨s1,s2,s3⟩:=Q.sch g;have Y:=(wT (after:=dN f) (bud:=4000) i.set i.rk A.s (by have:=(WR k i).ins;omega) (by omega)).1;have ho:=(wU Y s3).2.2.1;have b:=ad9 Y s3;have h:=fn_Has f.b f.ru f.i f.o a.s 4000 i.set i.rk A.s ⟨D.2.2.1,D.2.2.2.1⟩ (by omega) ho;rw[hI]at s2;rw[g]at P u;have R:=o' g;obtain⟨⟨B,K⟩,hB⟩:=A_ (UN f.b f.ru f.i f.o a.s 4000);rw[hB]at h b;simp only[wI,cells,List.cons_append,List.nil_append]at h b;simp(disch:=omega)[wl];refine aa P ?_;simp(disch:=omega)[wl];refine aa h ?_;simp(disch:=omega)[wl];refine⟨rfl,?_⟩;refine aa u ?_;by_cases F:K=0
      .subst F;have b:=b rfl;subst b;simp(disch:=omega)[wl,s1,s2,R];refine aa k9 ?_;simp(disch:=omega)[wl];rfl
      simp(disch:=omega)[wl,s1,s2,R,F];refine aa k9 ?_;simp(disch:=omega)[wl];rfl
     |true=>
      obtain⟨u1,u2,u3,u4,u5⟩:=Q.aft g;have hi:f.i=[]:=adS (mD.1 k).2.2.1 (A.n g);have Z:FitS c {f.ru with c:=0 } f.i f.o:=by rw[hi];exact PZ i (by omega)
      have a':kC c {f.ru with c:=0 } f.i f.o=0:=by rw[hi];exact u4
      have b':py c {f.ru with c:=0 } f.i f.o c.s 4000=(a.s,true,0):=by rw[hi];exact u5
      have Y:=(wT (after:=c.s) (bud:=4000) Z i.rk a' (by omega) (by omega)).1;have ho:=(wU Y b').2.2.1;have b:=ad9 Y b';have h:=fn_Has c {f.ru with c:=0 } f.i f.o a.s 4000 Z i.rk a' ⟨D.2.2.1,D.2.2.2.1⟩ (by omega) ho;rw[g]at C;have R:=n' g;obtain⟨⟨B,K⟩,hB⟩:∃p,UN c {f.ru with c:=0 } f.i f.o a.s 4000=p:=⟨_,rfl⟩;rw[hB]at h b;simp only[wI,cells,List.cons_append,List.nil_append]at h b;simp(disch:=omega)[wl];refine aa C ?_;simp(disch:=omega)[wl];refine aa h ?_
      have u6:f.ru.c=0\/k'=f.ru.c-1:=by
       rw[R];split<;>omega
      by_cases hz:f.ru.c=0
      .by_cases F:K=0
       .subst F;have b:=b rfl;subst b;simp(disch:=omega)[wl,u1,u2,u3,hz];refine aa k9 ?_;simp(disch:=omega)[wl]
        done
       simp(disch:=omega)[wl,u1,u2,u3,hz,F];refine aa k9 ?_;simp(disch:=omega)[wl]
       done
      have c':k'=f.ru.c-1:=by omega
      by_cases F:K=0
      .subst F;have b:=b rfl;subst b;simp(disch:=omega)[wl,u1,u2,u3,hz,c'];refine aa k9 ?_;simp(disch:=omega)[wl]
       done
      simp(disch:=omega)[wl,u1,u2,u3,hz,c',F];refine aa k9 ?_;simp(disch:=omega)[wl]
      done
theorem aiM{n:Int}(h:(Lit.int .u64 n).wf=true):0<=n/\n<=18446744073709551615:=by
 simp[Lit.wf]at h;have a:IntKind.u64.max=18446744073709551615:=by rfl
 have b:IntKind.u64.min=0:=by rfl
 simp only[a,b]at h;exact h
theorem VtodoAgain_true(a:List IV)(h:aeS [.slice scL,.int .u64] a):Fn G2 T_ 3 a (.bool true):=by
 obtain⟨v,b,rfl,⟨j,c,_,g⟩,x,d,rfl,⟨n,f,i⟩,e⟩:=h;have e:d=[]:=e;subst e;simp only[List.cons.injEq,and_true]at c f;subst c f;obtain⟨l,rfl⟩:=Um g;exact UQ l n (aiM i)
end Go.Vs.Y.Vt
