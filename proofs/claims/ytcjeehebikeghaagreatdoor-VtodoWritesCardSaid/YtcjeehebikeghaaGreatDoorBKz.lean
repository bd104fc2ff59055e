/- A part of a proof. No conditions. -/
import Derived.Test.YtcjeehebikeghaaGreatDoorBJz
import Derived.Shelf.Strings.IndexAnyAll
import Derived.Lib.Join
set_option linter.unusedVariables false
set_option linter.unusedSimpArgs false
set_option maxRecDepth 100000
set_option maxHeartbeats 4000000
namespace Go.Vs.Pa
open Go.Vs.U8
def Su(c:UInt8):Bool:=decide ((65<=c.toNat/\c.toNat<=90)\/(48<=c.toNat/\c.toNat<=57)\/c.toNat=45)
def Sv(c:UInt8):Bool:=decide ((65<=c.toNat/\c.toNat<=90)\/(97<=c.toNat/\c.toNat<=122)\/(48<=c.toNat/\c.toNat<=57)\/c.toNat=45)
def named:Str->Nat
 |[]=>0
 |c::r=>if Sv c then named r+1 else 0
theorem Qh{s:Str}{i:Nat}(h:(s.take i).all Sv=true)(a:i<=s.length)(b:∀c,s[i]?=some c->Sv c=false):named s=i:=by
 induction s generalizing i with
 |nil=>simp at a;subst a;rfl
 |cons c r d=>
  cases i with
  |zero=>
   have:=b c rfl;simp[named,this]
  |succ i=>
   simp only[List.take_succ_cons,List.all_cons,Bool.and_eq_true]at h;simp only[named,h.1,if_true];rw[d h.2 (by simpa using a) (by intro c e;exact b c (by simpa using e))]
theorem Sw(s:Str):(s.take (named s)).all Sv=true:=by
 induction s with
 |nil=>simp
 |cons c r a=>
  simp only[named];split
  ·next h=>simp[h]at a |-;exact a
  ·simp
theorem Mw(s:Str):named s=s.length↔s.all Sv=true:=by
 constructor
 ·intro h;have:=Sw s;rwa[h,List.take_length]at this
 ·intro h;exact Qh (by rw[List.take_length];exact h) (Nat.le_refl _) (by intro c a;simp at a)
def iE(s:Str):Bool:=decide (1<=s.length)&&decide (s.length<=24)&&s.all Su
def upB(c:UInt8):UInt8:=if 97<=c/\c<=122 then c-32 else c
def upper(s:Str):Str:=s.map upB
theorem upB_yes{c:UInt8}(b:97<=c.toNat)(e:c.toNat<=122):(upB c).toNat=c.toNat-32:=by
 have a:(97:UInt8)<=c/\c<=122:=⟨by rw[UInt8.le_iff_toNat_le];simpa using b,by rw[UInt8.le_iff_toNat_le];simpa using e⟩;rw[upB,if_pos a,UInt8.toNat_sub_of_le]
 ·rfl
 ·rw[UInt8.le_iff_toNat_le];simp;omega
theorem upB_no{c:UInt8}(h:¬(97<=c.toNat/\c.toNat<=122)):upB c=c:=by
 rw[upB,if_neg];rintro⟨a,b⟩;rw[UInt8.le_iff_toNat_le]at a b;exact h ⟨by simpa using a,by simpa using b⟩
theorem acW(c:UInt8):upB c=c↔¬(97<=c.toNat/\c.toNat<=122):=by
 constructor
 ·intro h a;have:=upB_yes a.1 a.2;rw[h]at this;omega
 ·exact upB_no
theorem aaG(c:UInt8):Su c=(Sv c&&decide (upB c=c)):=by
 rw[Bool.eq_iff_iff];simp only[Su,Sv,Bool.and_eq_true,decide_eq_true_eq,acW];omega
theorem XT(s:Str):upper s=s↔∀c∈s,upB c=c:=by
 induction s with
 |nil=>simp[upper]
 |cons c r a=>simp only[upper,List.map_cons,List.cons.injEq,List.mem_cons,forall_eq_or_imp]at a |-;rw[a]
theorem aaH(s:Str):s.all Su=true↔s.all Sv=true/\upper s=s:=by
 rw[XT];simp only[List.all_eq_true,aaG,Bool.and_eq_true,decide_eq_true_eq];exact⟨fun h=>⟨fun x a=>(h x a).1,fun x a=>(h x a).2⟩,fun h x a=>⟨h.1 x a,h.2 x a⟩⟩
def Il:Str->Str
 |[]=>[]
 |[c]=>[c]
 |c::d::r=>if c.toNat=94 then (if d.toNat=94 then 94::Il r else if d.toNat=110 then 10::Il r else if d.toNat=39 then 34::Il r else c::Il (d::r))else c::Il (d::r)
def esc:Str->Str
 |[]=>[]
 |c::r=>(if c.toNat=94 then [94,94]else if c.toNat=10 then [94,110]else if c.toNat=34 then [94,39]else [c])++esc r
def stp(c:UInt8):Bool:=decide (c.toNat=44\/c.toNat=58\/c.toNat=59)
def write(s:Str):Str:=if s.any stp then 34::(esc s++[34])else esc s
def sp(c:UInt8):UInt8:=if c.toNat=10 then 32 else c
def zg(s:Str):Bool:=(yB (s.map sp)).isNone
end Go.Vs.Pa
namespace Go.Vs.YtcjeehebikeghaaGreatDoor
open Go.Proofs Go.Vs.U8 Go.Vs.Pa
theorem Vn{c:UInt8}(h:Sv c=true):(65<=c.toNat/\c.toNat<=90)\/(97<=c.toNat/\c.toNat<=122)\/(48<=c.toNat/\c.toNat<=57)\/c.toNat=45:=by simpa[Sv]using h
theorem aaI{c:UInt8}(h:Sv c=false):c.toNat<45\/(45<c.toNat/\c.toNat<48)\/(57<c.toNat/\c.toNat<65)\/(90<c.toNat/\c.toNat<97)\/122<c.toNat:=by
 simp[Sv]at h;omega
theorem XU(s:Str)(o:s.length<1000000):Fn G T_ 140 [.str s] (.int .i64 (named s)):=by
 refine ae hm Ii (by simp) ?_;simp[za];refine be hm [] (fun i:Nat=>[(3,.val (.int .i64 i))]) (fun i=>[]) (fun i=>i<=s.length/\(s.take i).all Sv=true) (fun i=>s.length-i) 0 ⟨by omega,by simp⟩ ?_ ?_
 ·simp;exact bp
 rintro i ⟨l,f⟩;simp;by_cases h:i<s.length
 ·obtain⟨c,b⟩:∃c,s[i]=c:=⟨_,rfl⟩;have g:s[i]?=some c:=by rw[<-b];exact List.getElem?_eq_getElem h
  have m:=Fq c;cases e:Sv c with
  |true=>
   have n:(s.take (i+1)).all Sv=true:=by
    rw[List.take_succ_eq_append_getElem h,List.all_append,f,b];simp[e]
   rcases Vn e with a|a|a|a
   all_goals
    simp(disch:=omega)[wl,b];refine ai (i+1) ⟨by omega,n⟩ (by omega) ?_;simp;exact bp
  |false=>
   have j:named s=i:=Qh f l (by intro d k;rw[g]at k;cases k;exact e);rcases aaI e with a|a|a|a|a
   all_goals
    simp(disch:=omega)[wl,b,j]
 ·obtain rfl:i=s.length:=by omega
  have j:named s=s.length:=(Mw s).2 (by simpa using f);simp(disch:=omega)[wl,j]
theorem XV:Pa.upper=upper:=rfl
theorem TM(s:Str)(h:s.length<1000000):Fn G T_ 91 [.str s] (.bool (iE s)):=by
 refine ae hm Kr (by simp) ?_;simp[C6];have g:=XU s h;have i:=Ic s h;have e:=aaH s;rw[XV,<-Mw]at e;by_cases b:s=[]
 ·subst b;simp(disch:=omega)[wl,iE]
 have k:0<s.length:=List.length_pos_iff.2 b;by_cases j:s.length<=24
 ·by_cases c:named s=s.length
  ·by_cases f:upper s=s
   ·have a:iE s=true:=by simp[iE,j,e.2 ⟨c,f⟩];omega
    simp(disch:=omega)[wl,b];refine aa g ?_;simp(disch:=omega)[wl,c];refine aa i ?_;simp(disch:=omega)[wl,f,a]
   ·have a:iE s=false:=by
     cases d:s.all Su with
     |true=>exact absurd (e.1 d).2 f
     |false=>simp[iE,d]
    simp(disch:=omega)[wl,b];refine aa g ?_;simp(disch:=omega)[wl,c];refine aa i ?_;simp(disch:=omega)[wl,f,a]
  ·have a:iE s=false:=by
    cases d:s.all Su with
    |true=>exact absurd (e.1 d).1 c
    |false=>simp[iE,d]
   have l:¬((named s:Int)=s.length):=by omega
   simp(disch:=omega)[wl,b];refine aa g ?_;simp(disch:=omega)[wl,c,a]
 ·have a:iE s=false:=by simp[iE,j]
  simp(disch:=omega)[wl,b,a]
theorem aaJ(c:UInt8):Fn G T_ 156 [.int .u8 c.toNat] (.bool (Su c)):=by
 refine ae hm Ku (by simp) ?_;simp[Ce];have d:=Fq c;cases b:Su c with
 |true=>
  have:(65<=c.toNat/\c.toNat<=90)\/(48<=c.toNat/\c.toNat<=57)\/c.toNat=45:=by simpa[Su]using b
  rcases this with a|a|a<;>simp(disch:=omega)[wl]<;>omega
 |false=>
  have:c.toNat<45\/(45<c.toNat/\c.toNat<48)\/(57<c.toNat/\c.toNat<65)\/90<c.toNat:=by simp[Su]at b;omega
  rcases this with a|a|a|a<;>simp(disch:=omega)[wl]<;>omega
theorem Qi(s:Str)(m:s.length<1000000):Fn G T_ 98 [.str s] (.bool (iE s)):=by
 refine ae hm Ks (by simp) ?_;simp[C9];refine be hm [] (fun i:Nat=>[(3,.val (.int .i64 i))]) (fun i=>[]) (fun i=>i<=s.length/\(s.take i).all Su=true) (fun i=>s.length-i) 0 ⟨by omega,by simp⟩ ?_ ?_
 ·simp;exact bp
 rintro i ⟨n,f⟩;simp;by_cases h:i<s.length
 ·obtain⟨c,b⟩:∃c,s[i]=c:=⟨_,rfl⟩;have g:=aaJ c;cases d:Su c with
  |true=>
   have l:(s.take (i+1)).all Su=true:=by
    rw[List.take_succ_eq_append_getElem h,List.all_append,f,b];simp[d]
   simp(disch:=omega)[wl,b];refine aa g ?_;simp(disch:=omega)[wl,d];refine ai (i+1) ⟨by omega,l⟩ (by omega) ?_;simp;exact bp
  |false=>
   have a:iE s=false:=by
    have:s.all Su=false:=by rw[List.all_eq_false];exact⟨c,b▸List.getElem_mem h,by simp[d]⟩
    simp[iE,this]
   simp(disch:=omega)[wl,b];refine aa g ?_;simp(disch:=omega)[wl,d,a]
 ·obtain rfl:i=s.length:=by omega
  have e:s.all Su=true:=by simpa using f
  by_cases j:1<=s.length
  ·by_cases k:s.length<=24
   ·have a:iE s=true:=by simp[iE,e,k,j]
    simp(disch:=omega)[wl,a];omega
   ·have a:iE s=false:=by simp[iE,k]
    simp(disch:=omega)[wl,a];omega
  ·have a:iE s=false:=by simp[iE,j]
   simp(disch:=omega)[wl,a]
theorem u8_is{c:UInt8}{n:Nat}(a:n<256):c=UInt8.ofNat n↔c.toNat=n:=by
 constructor
 ·rintro rfl;simp;omega
 ·rintro h;exact UInt8.toNat_inj.1 (by simp;omega)
@[simp] theorem aeF:esc []=[]:=rfl
def parts(c:UInt8):Str->List Str
 |[]=>[[]]
 |x::r=>if x=c then []::parts c r else match parts c r with
  |[]=>[[x]]
  |p::ps=>(x::p)::ps
theorem tA(c:UInt8)(s:Str):parts c s≠[]:=by
 cases s with
 |nil=>simp[parts]
 |cons x r=>simp only[parts];split;simp;split<;>simp
theorem kX(c:UInt8)(s:Str):(parts c s).length=s.count c+1:=by
 induction s with
 |nil=>rfl
 |cons x r b=>
  simp only[parts];by_cases h:x=c
  ·subst h;simp[b]
  ·have e:(x::r).count c=r.count c:=by rw[List.count_cons];simp[h]
   rw[if_neg h,e];split
   ·next d=>exact absurd d (tA c r)
   ·next p ps d=>rw[d]at b;simpa using b
theorem uA{c:UInt8}{s:Str}(h:c∉s):parts c s=[s]:=by
 induction s with
 |nil=>rfl
 |cons x r a=>
  simp only[List.mem_cons,not_or]at h;simp[parts,Ne.symm h.1,a h.2]
theorem Ck{c:UInt8}{s:Str}{i:Nat}(a:s[i]?=some c)(b:c∉s.take i):parts c s=s.take i::parts c (s.drop (i+1)):=by
 induction s generalizing i with
 |nil=>simp at a
 |cons x r d=>
  cases i with
  |zero=>simp at a;subst a;simp[parts]
  |succ i=>
   simp only[List.take_succ_cons,List.mem_cons,not_or]at b;rw[List.getElem?_cons_succ]at a;simp only[parts,if_neg (Ne.symm b.1),d a b.2,List.take_succ_cons,List.drop_succ_cons]
theorem Im(s:Str)(c:UInt8):Fn G T_ 359 [.str s,.int .u8 c.toNat] (.int .i64 (s.count c)):=by
 refine Md ⟨Tryz.f359,Tryz.func359,by decide⟩ ?_;rintro w S i ⟨g,_,rfl,a,h,_,rfl,b,d⟩;have a:g=.string ⟨s.toArray⟩:=a;have b:h=.int .u8 c.toNat:=b;have d:_=[]:=d;subst a;subst b;subst d;refine⟨.int .i64 (s.count c),?_,rfl⟩;have f:=run_callFunc_extern (P:=T_) Tryz.func359 (by kernel_rfl) (by kernel_rfl) (by kernel_rfl) (e:=Extern.BytealgCount.count) (by kernel_rfl) #[.string ⟨s.toArray⟩,.int .u8 c.toNat] w;rw[Go.Lib.run_countString]at f;have e1:((c.toNat:Int)).toNat.toUInt8=c:=by simp
 rw[e1]at f;exact f
theorem XW(s:Str)(c:UInt8):Fn G T_ 320 [.str s,.str [c]] (.int .i64 (s.count c)):=by
 refine ae hm Et (by simp) ?_;simp[vu];refine aa (Im s c) ?_;simp
theorem In(s:Str)(c:UInt8):Fn G T_ 327 [.str s,.str [c]] (.int .i64 (oq s c)):=by
 refine ae hm nQ (by simp) ?_;simp[iA];refine Pd (fun h=>?_) (fun h=>?_)
 ·subst h;have:oq [c] c=0:=NA (i:=0) rfl (by simp);simp[this]
 ·simp;refine aa (wB s c) ?_;simp
theorem Qj(d:List Str)(p:Str)(k:Nat):(ts d++List.replicate (k+1) [IV.str []]).set d.length [.str p]=ts (d++[p])++List.replicate k [IV.str []]:=by
 have:d.length=(ts d).length:=by simp[ts]
 rw[this,List.set_append_right _ _ (Nat.le_refl _)];simp[ts,List.replicate_succ]
theorem aQ(d:List Str):(ts d).length=d.length:=by simp[ts]
theorem Qk(d:List Str)(k:Nat):(ts d++List.replicate (k+1) [IV.str []])[d.length]?=some [.str []]:=by
 rw[List.getElem?_append_right (by rw[aQ];omega),aQ];simp[List.replicate_succ]
theorem XX(s:Str)(c:UInt8):Fn G T_ 321 [.str s,.str [c]] (.int .i64 (oq s c)):=by
 refine ae hm Eu (by simp) ?_;simp[vw];refine aa (In s c) ?_;simp
theorem Ql(s:Str)(c:UInt8)(z:s.length<1000000):Fn G T_ 273 [.str s,.str [c],.int .i64 0,.int .i64 (-1)] (.slice (ts (parts c s))):=by
 refine ae hm yC (by simp) ?_;simp[qc];have A:s.count c<=s.length:=List.count_le_length;have f:min ((s.count c:Int)+1) (s.length+1)=s.count c+1:=by omega
 refine aa (XW s c) ?_;simp(disch:=omega)[wl,f];refine⟨by omega,?_⟩;refine be hm [] (fun x:List Str×Str=>[(0,.val (.str x.2)),(3,.val (.int .i64 (s.count c))),(10,.val (.int .i64 x.1.length))]) (fun x=>[(31,.arr 0 1 (ts x.1++List.replicate (x.2.count c+1) [.str []]))]) (fun x=>x.2.length<=s.length/\x.1.length+x.2.count c=s.count c/\x.1++parts c x.2=parts c s) (fun x=>x.2.length) ([],s) ⟨by simp,by simp,by simp⟩ ?_ ?_
 ·simp[ts];exact bp
 rintro⟨d,t⟩ ⟨q,u,k⟩;simp at q u k;simp;by_cases h:d.length<s.count c
 ·have g:0<t.count c:=by omega
  have i:c∈t:=List.count_pos_iff.1 g;rcases qb t c with⟨_,j⟩|⟨m,v,o,w⟩
  ·exact absurd i j
  ·have p:=XX t c;rw[v]at p;obtain⟨y,_⟩:=List.getElem?_eq_some_iff.1 o;have a:=Ck o w;have b:=Qj d (t.take m) (t.count c);simp(disch:=omega)[wl,h];refine aa p ?_;have e:=Qk d (t.count c)
   have l:(t.drop (m+1)).count c+1=t.count c:=by
    have:=kX c t;rw[a,List.length_cons,kX]at this;omega
   simp(disch:=omega)[wl,aQ,e,b];refine⟨by omega,by omega,?_⟩;refine ai (d++[t.take m],t.drop (m+1)) ⟨by simp;omega,by simp;omega,?_⟩ (by simp;omega) ?_
   ·rw[<-k,a];simp
   simp[l];exact bp
 ·have j:t.count c=0:=by omega
  have n:c∉t:=List.count_eq_zero.1 j;have a:=uA n;have b:=Qj d t 0;have e:=Qk d 0;simp at b e;simp(disch:=omega)[wl,h,j,aQ,e,b];refine⟨by omega,?_⟩;rw[<-k,a,List.take_of_length_le (by rw[aQ];simp)]
theorem wF(s:Str)(c:UInt8)(a:s.length<1000000):Fn G T_ 209 [.str s,.str [c]] (.slice (ts (parts c s))):=by
 refine ae hm Es (by simp) ?_;simp[vr];refine aa (Ql s c a) ?_;simp
theorem Sz{c:UInt8}{r p:Str}{ps:List Str}(h:parts c r=p::ps):(∀k,k<p.length->r[k]?=p[k]?/\r[k]?≠some c)/\(r[p.length]?=none\/r[p.length]?=some c):=by
 induction r generalizing p ps with
 |nil=>simp[parts]at h;obtain⟨rfl,rfl⟩:=h;simp
 |cons x r b=>
  simp only[parts]at h;by_cases a:x=c
  ·rw[if_pos a]at h;simp at h;obtain⟨rfl,rfl⟩:=h;simp[a]
  ·rw[if_neg a]at h;split at h
   ·next d=>exact absurd d (tA c r)
   ·next q j e=>
    simp at h;obtain⟨rfl,rfl⟩:=h;obtain⟨f,g⟩:=b e;refine⟨fun k i=>?_,by simpa using g⟩;cases k with
    |zero=>simp[a]
    |succ k=>simpa using f k (by simpa using i)
theorem Mx{c:UInt8} : ∀ {z:Nat} {r p:Str} {ps:List Str},parts c r=p::ps->z<=p.length->parts c (r.drop z)=p.drop z::ps
 |0,r,p,ps,h,_=>h
 |z+1,[],p,ps,h,a=>by simp[parts]at h;obtain⟨rfl,rfl⟩:=h;simp at a
 |z+1,x::r,p,ps,h,a=>by
  simp only[parts]at h;by_cases b:x=c
  ·rw[if_pos b]at h;simp at h;obtain⟨rfl,rfl⟩:=h;simp at a
  ·rw[if_neg b]at h;split at h
   ·next d=>exact absurd d (tA c r)
   ·next q e f=>
    simp at h;obtain⟨rfl,rfl⟩:=h;show parts c (r.drop z)=q.drop z::e;exact Mx f (by simpa using a)
theorem NO{r p:Str}{ps:List Str}(h:parts 10 r=p::ps){k lo hi:Nat}(f:128<=lo)(i:k<=p.length):tl p k lo hi=tl (r.map sp) k lo hi:=by
 obtain⟨g,b⟩:=Sz h;unfold tl;rw[List.getElem?_map];by_cases a:k<p.length
 ·obtain⟨c,d⟩:=g k a;rw[c,List.getElem?_eq_getElem a];rw[c,List.getElem?_eq_getElem a]at d;have:p[k].toNat≠10:=fun e=>d (by rw[<-UInt8.toNat_inj.1 (show p[k].toNat=(10:UInt8).toNat from e)])
  simp[sp,this]
 ·obtain rfl:k=p.length:=by omega
  rw[List.getElem?_eq_none (Nat.le_refl _)];rcases b with b|b
  ·rw[b];rfl
  ·rw[b];simp[sp];omega
theorem Vo{r p:Str}{ps:List Str}(c:UInt8)(h:parts 10 r=p::ps):eF (c::p)=eF (c::r.map sp):=by
 have b:∀n,128<=Wp n:=by
  intro n;unfold Wp;split
  ·omega
  ·split<;>omega
 have t0:=fun lo hi (a:128<=lo)=>NO h (k:=0) (lo:=lo) (hi:=hi) a (by omega)
 have e1:∀lo hi,128<=lo->(tl p 0 lo hi&&tl p 1 128 191)=(tl (r.map sp) 0 lo hi&&tl (r.map sp) 1 128 191):=by
  intro lo hi a;by_cases f:1<=p.length
  ·rw[t0 lo hi a,NO h (by omega) f]
  ·have:tl p 0 lo hi=false:=by
    cases g:tl p 0 lo hi with
    |false=>rfl
    |true=>have:=I4 g;omega
   rw[<-t0 lo hi a,this];rfl
 have e2:∀lo hi,128<=lo->(tl p 0 lo hi&&tl p 1 128 191&&tl p 2 128 191)=(tl (r.map sp) 0 lo hi&&tl (r.map sp) 1 128 191&&tl (r.map sp) 2 128 191):=by
  intro lo hi a;by_cases f:2<=p.length
  ·rw[e1 lo hi a,NO h (by omega) f]
  ·have:tl p 1 128 191=false:=by
    cases g:tl p 1 128 191 with
    |false=>rfl
    |true=>have:=I4 g;omega
   rw[<-e1 lo hi a,this];simp
 simp only[eF];rw[t0 128 191 (by omega)];have d:=e1 (Wp c.toNat) (Kl c.toNat) (b _);have e:=e2 (Wp c.toNat) (Kl c.toNat) (b _);simp only[Bool.and_assoc]at d e |-;rw[d,e]
theorem Ev:∀(n:Nat) (v:Str),v.length<=n->(yB (v.map sp)=none↔∀p∈parts 10 v,yB p=none)
 |_,[],_=>by simp[parts]
 |n+1,c::r,i=>by
  rw[List.map_cons,I6 (by simp)];by_cases b:c=10
  ·subst b;have j:mw (sp 10::r.map sp)=false:=by simp[mw,eF,sp]
   have a:eF (sp 10::r.map sp)=1:=by simp[eF,sp]
   rw[j,a];simp only[Bool.false_eq_true,if_false,Option.map_eq_none_iff,List.drop_succ_cons,List.drop_zero];rw[Ev n r (by simpa using i)];simp[parts]
  ·have d:c.toNat≠10:=fun e=>b (UInt8.toNat_inj.1 e)
   have f:sp c=c:=by simp[sp,d]
   obtain⟨p,ps,g⟩:=List.exists_cons_of_ne_nil (tA 10 r);have o:parts 10 (c::r)=(c::p)::ps:=by simp[parts,b,g]
   have k:=Vo c g;rw[o,f,List.forall_mem_cons,I6 (l:=c::p) (by simp)];have m:mw (c::p)=mw (c::r.map sp):=by simp only[mw,k]
   rw[m,<-k];cases q:mw (c::r.map sp)with
   |true=>simp
   |false=>
    have j:1<=eF (c::p):=B8 (by rw[m];exact q) (by simp);have a:=I5 (c::p);obtain⟨z,h⟩:∃z,eF (c::p)=z+1:=⟨eF (c::p)-1,by omega⟩;rw[h]at a |-;simp only[Bool.false_eq_true,if_false,Option.map_eq_none_iff,List.drop_succ_cons];have s:=Mx g (z:=z) (by simpa using a);rw[<-List.map_drop,Ev n (r.drop z) (by simp at i |-;omega),s,List.forall_mem_cons]
theorem SA(v:Str):zg v=true↔∀p∈parts 10 v,yB p=none:=by
 rw[<-Ev v.length v (Nat.le_refl _)];simp[zg]
theorem gg{c:UInt8} : ∀ {v p:Str},p∈parts c v->p.length<=v.length
 |[],p,h=>by simp[parts]at h;simp[h]
 |x::r,p,h=>by
  simp only[parts]at h;split at h
  ·rcases List.mem_cons.1 h with rfl|h
   ·simp
   ·have:=gg h;simp;omega
  ·split at h
   ·next b=>exact absurd b (tA c r)
   ·next q d e=>
    have a:∀p,p∈q::d->p.length<=r.length:=fun p hm=>gg (by rw[e];exact hm)
    rcases List.mem_cons.1 h with rfl|h
    ·have:=a q (by simp);simp;omega
    ·have:=a p (by simp[h]);simp;omega
theorem aaK(s:Str)(j:s.length<1000000):Fn G T_ 225 [.str s] (.bool (zg s)):=by
 refine ae hm Kw (by simp) ?_;simp[Ci];refine be hm [] (fun i:Nat=>[(4,.val (.int .i64 i)),(3,.own 3 i)]) (fun i=>[(3,.arr i 1 (an ((s.map sp).take i)))]) (fun i=>i<=s.length) (fun i=>s.length-i) 0 (by omega) ?_ ?_
 ·simp[an];exact cH.trans (ct (k:=3) 3 1 (by simp) (by simp[ap,ac])) (ag rfl rfl (by simp[St.adopt,aI,ap,ac,put,cS,SV.erase]) (by simp[St.adopt,bD,ac,put,ck,Ob.erase]) (by simp[St.adopt,bB]))
 intro i o;simp;by_cases h:i<s.length
 ·obtain⟨c,e⟩:∃c,s[i]=c:=⟨_,rfl⟩;have d:(s.map sp).take (i+1)=(s.map sp).take i++[sp c]:=by rw[List.take_succ_eq_append_getElem (by simpa using h),List.getElem_map,e]
  have l:=Fq c;have p:(an ((s.map sp).take i)).length<=1000000:=by simp[an];omega
  have b:(an ((s.map sp).take i)).length+1<=281474976710656:=by omega
  by_cases f:c.toNat=10
  ·have a:sp c=32:=by simp[sp,f]
   rw[a]at d;simp(disch:=omega)[wl,e,b];refine⟨by omega,?_⟩;refine ai (i+1) (by omega) (by omega) ?_;simp[d,fe];exact bp
  ·have a:sp c=c:=by simp[sp,f]
   rw[a]at d;simp(disch:=omega)[wl,e,b];refine⟨by omega,?_⟩;refine ai (i+1) (by omega) (by omega) ?_;simp[d,fe];exact bp
 ·obtain rfl:i=s.length:=by omega
  have m:=TI (s.map sp) (by simpa using j);have n:(s.map sp).take s.length=s.map sp:=List.take_of_length_le (by simp);simp(disch:=omega)[wl,jE,n];refine aa m ?_;cases g:yB (s.map sp)with
  |none=>simp[zg,g,ww]
  |some k=>
   have:¬((k:Int) = -1):=by omega
   simp[zg,g,ww,this]
structure Pm where
 n:Str
 v:List Str
 deriving DecidableEq
def Pm.iv(p:Pm):IV:=.agg [.str p.n,.slice (ts p.v)]
def ps(l:List Pm):List (List IV):=l.map fun p=>[.str p.n,.slice (ts p.v)]
theorem bW(l:List Pm):(ps l).length=l.length:=by simp[ps]
theorem kM{d:List Str}{i:Nat}{x:Str}(h:i<d.length)(a:d[i]=x):(ts d)[i]?=some [.str x]:=by simp[ts,h,a]
theorem qf{d:List Pm}{i:Nat}{x:Pm}(h:i<d.length)(a:d[i]=x):(ps d)[i]?=some [.str x.n,.slice (ts x.v)]:=by simp[ps,h,a]
def ou:List Str->Int
 |[]=>0
 |x::r=>if 60<x.length then 5 else if zg x then ou r else 10
def lM(p:Pm):Int:=if iE p.n then (if p.v.length=0\/6<p.v.length then 20 else ou p.v)else 4
theorem Vp(p:Pm)(k:p.n.length<1000000):Fn G T_ 157 [p.iv] (.int .i64 (lM p)):=by
 refine ae hm Ik (by simp) ?_;simp[ze,Pm.iv];refine aa (Qi p.n k) ?_;obtain⟨n,v⟩:=p;simp only at *;cases e:iE n with
 |false=>simp[lM,e]
 |true=>
  have b:lM ⟨n,v⟩=if v.length=0\/6<v.length then 20 else ou v:=by simp[lM,e]
  simp[aQ];by_cases m:v.length<1
  ·rw[if_pos (by omega)]at b;simp(disch:=omega)[wl,aQ,b]
  ·by_cases o:6<v.length
   ·rw[if_pos (by omega)]at b;simp(disch:=omega)[wl,aQ,b]
   ·rw[if_neg (by omega)]at b;rw[b];simp(disch:=omega)[wl,aQ];refine be hm [] (fun i:Nat=>[(3,.val (.int .i64 i))]) (fun i=>[]) (fun i=>i<=v.length/\ou (v.drop i)=ou v) (fun i=>v.length-i) 0 ⟨by omega,by simp⟩ ?_ ?_
    ·simp;exact bp
    rintro i ⟨q,a⟩;simp[aQ];by_cases h:i<v.length
    ·obtain⟨x,f⟩:∃x,v[i]=x:=⟨_,rfl⟩;have d:=kM h f;have l:v.drop i=x::v.drop (i+1):=by rw[<-f];exact List.drop_eq_getElem_cons h
     rw[l,ou]at a;by_cases g:60<x.length
     ·rw[if_pos g]at a;simp(disch:=omega)[wl,aQ,d,<-a]
     ·rw[if_neg g]at a;have c:=aaK x (by omega);cases j:zg x with
      |false=>
       rw[j]at a c;simp(disch:=omega)[wl,aQ,d];refine aa c ?_;simp at a;simp[<-a]
      |true=>
       rw[j]at a c;simp(disch:=omega)[wl,aQ,d];refine aa c ?_;simp at a;simp(disch:=omega)[wl];refine ai (i+1) ⟨by omega,a⟩ (by omega) ?_;simp;exact bp
    ·obtain rfl:i=v.length:=by omega
     simp[ou]at a;simp[<-a]
theorem XY(p:Pm)(I:p.n.length<1000000):Fn G T_ 142 [p.iv] (.int .i64 (lM p)):=by
 refine ae hm Ij (by simp) ?_;simp[zc,Pm.iv];refine aa (TM p.n I) ?_;obtain⟨n,v⟩:=p;simp only at *;cases z:iE n with
 |false=>simp[lM,z]
 |true=>
  have d:lM ⟨n,v⟩=if v.length=0\/6<v.length then 20 else ou v:=by simp[lM,z]
  simp[aQ];by_cases A:v.length=0
  ·rw[if_pos (by omega)]at d;obtain rfl:v=[]:=List.length_eq_zero_iff.1 A;simp(disch:=omega)[wl,aQ,d]
  ·have f:¬v=[]:=fun e=>A (by rw[e];rfl)
   by_cases M:6<v.length
   ·rw[if_pos (by omega)]at d;simp(disch:=omega)[wl,aQ,d,f]
   ·rw[if_neg (by omega)]at d;rw[d];simp(disch:=omega)[wl,aQ,f];refine be hm [] (fun i:Nat=>[(24,.val (.int .i64 i))]) (fun i=>[]) (fun i=>i<=v.length/\ou (v.drop i)=ou v) (fun i=>v.length-i) 0 ⟨by omega,by simp⟩ ?_ ?_
    ·simp;exact bp
    rintro i ⟨N,a⟩;simp[aQ];by_cases h:i<v.length
    ·obtain⟨x,B⟩:∃x,v[i]=x:=⟨_,rfl⟩;have C:=kM h B;have J:v.drop i=x::v.drop (i+1):=by rw[<-B];exact List.drop_eq_getElem_cons h
     rw[J,ou]at a;by_cases D:60<x.length
     ·rw[if_pos D]at a;simp(disch:=omega)[wl,aQ,C,<-a]
     ·rw[if_neg D]at a;have E:=wF x 10 (by omega);have c:=SA x;have g:∀p∈parts 10 x,p.length<1000000:=fun p b=>by have:=gg b;omega
      have m:(parts 10 x).length<=100:=by
       rw[kX];have:x.count 10<=x.length:=List.count_le_length;omega
      obtain⟨P,o⟩:∃P,parts 10 x=P:=⟨_,rfl⟩;rw[o]at E c g m;simp(disch:=omega)[wl,aQ,C];refine aa E ?_;simp(disch:=omega)[wl,aQ];refine be hm [] (fun j:Nat=>[(34,.val (.int .i64 j))]) (fun i=>[]) (fun j=>j<=P.length/\∀p∈P.take j,yB p=none) (fun j=>P.length-j) 0 ⟨by omega,by simp⟩ ?_ ?_
      ·simp;exact bp
      rintro j ⟨O,F⟩;simp[aQ];by_cases q:j<P.length
      ·obtain⟨y,s⟩:∃y,P[j]=y:=⟨_,rfl⟩;have u:=kM q s;have l:y∈P:=s▸List.getElem_mem q;have K:=XQ y (g y l);simp(disch:=omega)[wl,aQ,u];refine aa K ?_;cases H:yB y with
       |some k=>
        have w:zg x=false:=by
         cases L:zg x with
         |false=>rfl
         |true=>have:=c.1 L y l;rw[H]at this;cases this
        rw[w]at a;simp at a;simp(disch:=omega)[wl,ww,<-a]
       |none=>
        simp(disch:=omega)[wl,ww];refine ai (j+1) ⟨by omega,?_⟩ (by omega) ?_
        ·intro p b;rw[List.take_succ_eq_append_getElem q,List.mem_append]at b;rcases b with b|b
         ·exact F p b
         ·rw[List.mem_singleton.1 b,s];exact H
        ·simp;exact bp
      ·obtain rfl:j=P.length:=by omega
       have w:zg x=true:=c.2 (by simpa using F);rw[w]at a;simp at a;simp(disch:=omega)[wl];refine ai (i+1) ⟨by omega,a⟩ (by omega) ?_;simp;exact bp
    ·obtain rfl:i=v.length:=by omega
     simp[ou]at a;simp[<-a]
theorem fn_Clone(v:List Str)(d:v.length<1000000):Fn G T_ 130 [.slice (ts v)] (.slice (ts v)):=by
 refine ae hm uz (by simp) ?_;simp[my];cases v with
 |nil=>
  simp[ts]
 |cons x r=>
  have b:=aQ (x::r);simp only[List.length_cons]at b d;have:ts (x::r)=[.str x]::ts r:=rfl;rw[this]at b |-;simp at b;simp(disch:=omega)[wl,b];exact⟨by omega,fun a c=>by simp[ts]at c;obtain⟨y,_,rfl⟩:=c;rfl⟩
def Ew(l:List Pm)(n:Str):Bool:=l.any fun p=>decide (p.n=n)
def gB(l:List Pm)(n:Str):Option Pm:=l.find? fun p=>decide (p.n=n)
def gP:Option Pm->IV
 |some p=>.tuple [p.iv,.bool true]
 |none=>.tuple [(⟨[],[]⟩:Pm).iv,.bool false]
theorem acX{l:List Pm}{i:Nat}{p:Pm}{n:Str}(h:i<l.length)(a:l[i]=p):Ew (l.drop i) n=(decide (p.n=n)||Ew (l.drop (i+1)) n):=by
 rw[List.drop_eq_getElem_cons h,a];rfl
theorem Qm{l:List Pm}{i:Nat}{p:Pm}{n:Str}(h:i<l.length)(a:l[i]=p):gB (l.drop i) n=if p.n=n then some p else gB (l.drop (i+1)) n:=by
 rw[List.drop_eq_getElem_cons h,a];by_cases e:p.n=n<;>simp[gB,e]
theorem acY(l:List Pm)(n:Str)(e:l.length<1000000):Fn G T_ 158 [.slice (ps l),.str n] (.bool (Ew l n)):=by
 refine ae hm NN (by simp) ?_;simp[Ft];refine be hm [] (fun i:Nat=>[(5,.val (.int .i64 i))]) (fun i=>[]) (fun i=>i<=l.length/\Ew (l.drop i) n=Ew l n) (fun i=>l.length-i) 0 ⟨by omega,by simp⟩ ?_ ?_
 ·simp;exact bp
 rintro i ⟨f,a⟩;simp[bW];by_cases h:i<l.length
 ·obtain⟨p,c⟩:∃p,l[i]=p:=⟨_,rfl⟩;have d:=qf h c;rw[acX h c]at a;by_cases b:p.n=n
  ·simp[b]at a;simp(disch:=omega)[wl,bW,d,b,a]
  ·simp[b]at a;simp(disch:=omega)[wl,bW,d,b];refine ai (i+1) ⟨by omega,a⟩ (by omega) ?_;simp;exact bp
 ·obtain rfl:i=l.length:=by omega
  simp[Ew]at a;simp(disch:=omega)[wl,Ew];exact a
theorem Io(l:List Pm)(n:Str)(g:l.length<1000000):Fn G T_ 161 [.slice (ps l),.str n] (gP (gB l n)):=by
 refine ae hm Kv (by simp) ?_;simp[Cg];refine be hm [] (fun i:Nat=>[(6,.val (.int .i64 i))]) (fun i=>[]) (fun i=>i<=l.length/\gB (l.drop i) n=gB l n) (fun i=>l.length-i) 0 ⟨by omega,by simp⟩ ?_ ?_
 ·simp;exact bp
 rintro i ⟨j,a⟩;simp[bW];by_cases h:i<l.length
 ·obtain⟨p,d⟩:∃p,l[i]=p:=⟨_,rfl⟩;have e:=qf h d;rw[Qm h d]at a;by_cases b:p.n=n
  ·simp[b]at a;simp(disch:=omega)[wl,bW,e,b,<-a,gP,Pm.iv]
  ·simp[b]at a;simp(disch:=omega)[wl,bW,e,b];refine ai (i+1) ⟨by omega,a⟩ (by omega) ?_;simp;exact bp
 ·obtain rfl:i=l.length:=by omega
  have f:gB l n=none:=by rw[<-a];simp[gB]
  simp(disch:=omega)[wl,f,gP,Pm.iv];rfl
theorem GY(l:List Pm)(n:Str)(m:l.length<1000000)(f:∀p∈l,p.v.length<1000000):Fn G T_ 143 [.slice (ps l),.str n] (gP (gB l n)):=by
 refine ae hm Kt (by simp) ?_;simp[Cc,bW];refine be hm [] (fun i:Nat=>[(10,.val (.int .i64 i))]) (fun i=>[]) (fun i=>i<=l.length/\gB (l.drop i) n=gB l n) (fun i=>l.length-i) 0 ⟨by omega,by simp⟩ ?_ ?_
 ·simp;exact bp
 rintro i ⟨o,a⟩;simp[bW];by_cases h:i<l.length
 ·obtain⟨p,d⟩:∃p,l[i]=p:=⟨_,rfl⟩;have e:=qf h d;rw[Qm h d]at a;have g:=fn_Clone p.v (f p (d▸List.getElem_mem h));by_cases b:p.n=n
  ·simp[b]at a;simp(disch:=omega)[wl,bW,e,b];refine aa g ?_;simp(disch:=omega)[wl];refine⟨rfl,?_⟩;rw[<-a];simp[gP,Pm.iv,b]
  ·simp[b]at a;simp(disch:=omega)[wl,bW,e,b];refine ai (i+1) ⟨by omega,a⟩ (by omega) ?_;simp;exact bp
 ·obtain rfl:i=l.length:=by omega
  have j:gB l n=none:=by rw[<-a];simp[gB]
  simp(disch:=omega)[wl,j,gP,Pm.iv];rfl
def dI:List Pm->Int
 |[]=>0
 |p::r=>if lM p=0 then dI r else lM p
def jX:List Pm->List Pm->Bool
 |_,[]=>false
 |a,p::r=>Ew a p.n||jX (a++[p]) r
def iF(l:List Pm):Int:=if 6<l.length then 20 else if dI l=0 then (if jX [] l then 19 else 0)else dI l
theorem Fv{l:List Pm}{i:Nat}{p:Pm}(h:i<l.length)(a:l[i]=p):dI (l.drop i)=if lM p=0 then dI (l.drop (i+1))else lM p:=by
 rw[List.drop_eq_getElem_cons h,a];rfl
theorem Qn{l:List Pm}{i:Nat}{p:Pm}(h:i<l.length)(a:l[i]=p):jX (l.take i) (l.drop i)=(Ew (l.take i) p.n||jX (l.take (i+1)) (l.drop (i+1))):=by
 rw[List.drop_eq_getElem_cons h,a,List.take_succ_eq_append_getElem h,a];rfl
theorem XZ(l:List Pm)(n:Str):Ew l n=(gB l n).isSome:=by
 induction l with
 |nil=>rfl
 |cons p r a=>
  by_cases e:p.n=n
  ·simp[Ew,gB,e]
  ·simp only[Ew,gB,List.any_cons,List.find?_cons]at a |-;simp[e,a]
theorem TN(l:List Pm):∀b,b∈ps l->b.length=2:=fun a c=>by simp[ps]at c;obtain⟨y,_,rfl⟩:=c;rfl
theorem TO(l:List Pm)(i:Nat):(ps l).take i=ps (l.take i):=by simp[ps,List.map_take]
structure Fit(l:List Pm):Prop where
 n:∀p∈l,p.n.length<100000
 v:∀p∈l,p.v.length<100000
 t:∀p∈l,∀s∈p.v,s.length<10000
theorem NP(l:List Pm)(u:l.length<100000)(n:Fit l):Fn G T_ 99 [.slice (ps l)] (.int .i64 (iF l)):=by
 refine ae hm Cb (by simp) ?_;simp[tv,bW];by_cases k:6<l.length
 ·simp(disch:=omega)[wl,iF,k,bW]
 ·have o:iF l=if dI l=0 then (if jX [] l then 19 else 0)else dI l:=by rw[iF,if_neg k]
  rw[o];simp(disch:=omega)[wl,bW];refine be hm [] (fun i:Nat=>[(3,.val (.int .i64 i))]) (fun i=>[]) (fun i=>i<=l.length/\dI (l.drop i)=dI l) (fun i=>l.length-i) 0 ⟨by omega,by simp⟩ ?_ ?_
  ·simp;exact bp
  rintro i ⟨v,a⟩;simp[bW];by_cases h:i<l.length
  ·obtain⟨p,b⟩:∃p,l[i]=p:=⟨_,rfl⟩;have f:p∈l:=b▸List.getElem_mem h;have g:=qf h b;have q:=Vp p (by have:=n.n p f;omega);rw[Fv h b]at a;simp(disch:=omega)[wl,bW,g];refine aa q ?_;by_cases d:lM p=0
   ·rw[if_pos d]at a;simp(disch:=omega)[wl,d];refine ai (i+1) ⟨by omega,a⟩ (by omega) ?_;simp;exact bp
   ·rw[if_neg d]at a;have:¬dI l=0:=by rw[<-a];exact d
    rw[if_neg this,<-a];simp(disch:=omega)[wl,d]
  ·obtain rfl:i=l.length:=by omega
   have e:dI l=0:=by rw[<-a];simp[dI]
   rw[if_pos e];simp(disch:=omega)[wl,bW];refine be hm [] (fun i:Nat=>[(5,.val (.int .i64 i))]) (fun i=>[]) (fun i=>i<=l.length/\jX (l.take i) (l.drop i)=jX [] l) (fun i=>l.length-i) 0 ⟨by omega,by simp⟩ ?_ ?_
   ·simp;exact bp
   rintro j ⟨w,c⟩;simp[bW];by_cases h:j<l.length
   ·obtain⟨p,b⟩:∃p,l[j]=p:=⟨_,rfl⟩;have g:=qf h b;have s:=acY (l.take j) p.n (by simp;omega);rw[Qn h b]at c;simp(disch:=omega)[wl,bW,g,TO];refine⟨⟨by omega,TN l⟩,?_⟩;refine aa s ?_;cases m:Ew (l.take j) p.n with
    |true=>
     rw[m]at c;have e:jX [] l=true:=by rw[<-c];rfl
     simp[e];rfl
    |false=>
     rw[m]at c;simp(disch:=omega)[wl];refine⟨rfl,?_⟩;refine ai (j+1) ⟨by omega,by simpa using c⟩ (by omega) ?_;simp;exact bp
   ·obtain rfl:j=l.length:=by omega
    have e:jX [] l=false:=by rw[<-c];simp[jX]
    simp(disch:=omega)[wl,e]
theorem Qo(l:List Pm)(x:l.length<100000)(m:Fit l):Fn G T_ 92 [.slice (ps l)] (.int .i64 (iF l)):=by
 refine ae hm C8 (by simp) ?_;simp[tr,bW];by_cases n:6<l.length
 ·simp(disch:=omega)[wl,iF,n,bW]
 ·have s:iF l=if dI l=0 then (if jX [] l then 19 else 0)else dI l:=by rw[iF,if_neg n]
  rw[s];simp(disch:=omega)[wl,bW];refine be hm [] (fun i:Nat=>[(15,.val (.int .i64 i))]) (fun i=>[]) (fun i=>i<=l.length/\dI (l.drop i)=dI l) (fun i=>l.length-i) 0 ⟨by omega,by simp⟩ ?_ ?_
  ·simp;exact bp
  rintro i ⟨y,b⟩;simp[bW];by_cases h:i<l.length
  ·obtain⟨p,c⟩:∃p,l[i]=p:=⟨_,rfl⟩;have g:p∈l:=c▸List.getElem_mem h;have k:=qf h c;have u:=XY p (by have:=m.n p g;omega);rw[Fv h c]at b;simp(disch:=omega)[wl,bW,k];refine aa u ?_;by_cases e:lM p=0
   ·rw[if_pos e]at b;simp(disch:=omega)[wl,e];refine ai (i+1) ⟨by omega,b⟩ (by omega) ?_;simp;exact bp
   ·rw[if_neg e]at b;have:¬dI l=0:=by rw[<-b];exact e
    rw[if_neg this,<-b];simp(disch:=omega)[wl,e]
  ·obtain rfl:i=l.length:=by omega
   have f:dI l=0:=by rw[<-b];simp[dI]
   rw[if_pos f];simp(disch:=omega)[wl,bW];refine be hm [] (fun i:Nat=>[(27,.val (.int .i64 i))]) (fun i=>[]) (fun i=>i<=l.length/\jX (l.take i) (l.drop i)=jX [] l) (fun i=>l.length-i) 0 ⟨by omega,by simp⟩ ?_ ?_
   ·simp;exact bp
   rintro j ⟨z,d⟩;simp[bW];by_cases h:j<l.length
   ·obtain⟨p,c⟩:∃p,l[j]=p:=⟨_,rfl⟩;have k:=qf h c;have v:=GY (l.take j) p.n (by simp;omega) (fun q w=>by have:=m.v q (List.mem_of_mem_take w);omega);have a:=XZ (l.take j) p.n;rw[Qn h c]at d;simp(disch:=omega)[wl,bW,k,TO];refine⟨⟨by omega,TN l⟩,?_⟩;refine aa v ?_;cases o:gB (l.take j) p.n with
    |some q=>
     rw[o]at a;rw[a]at d;have f:jX [] l=true:=by rw[<-d];rfl
     simp[f,gP,Pm.iv];rfl
    |none=>
     rw[o]at a;rw[a]at d;simp(disch:=omega)[wl,gP,Pm.iv];refine⟨rfl,?_⟩;refine ai (j+1) ⟨by omega,by simpa using d⟩ (by omega) ?_;simp;exact bp
   ·obtain rfl:j=l.length:=by omega
    have f:jX [] l=false:=by rw[<-d];simp[jX]
    simp(disch:=omega)[wl,f]
theorem agb{l:List Str}(h:l≠[])(x a:Str):Go.Lib.join (l++[x]) a=Go.Lib.join l a++(a++x):=by
 obtain⟨y,r,rfl⟩:=List.exists_cons_of_ne_nil h;rw[List.cons_append,Go.Lib.join_cons,Go.Lib.join_cons];simp[Go.Lib.joinTail]
end Go.Vs.YtcjeehebikeghaaGreatDoor
