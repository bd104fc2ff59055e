/- A part of a proof. No conditions. -/
import Derived.Test.YtnhbiolfmeeniaaGreatDoorBJz
import Derived.Shelf.Strings.IndexAnyAll
import Derived.Lib.Join
set_option linter.all false
set_option maxRecDepth 100000
set_option maxHeartbeats 4000000
namespace Go.Vs.Pa
open Go.Vs.U8
def sgn(c:UInt8):Bool:=decide ((65<=c.toNat/\c.toNat<=90)\/(48<=c.toNat/\c.toNat<=57)\/c.toNat=45)
def VO(c:UInt8):Bool:=decide ((65<=c.toNat/\c.toNat<=90)\/(97<=c.toNat/\c.toNat<=122)\/(48<=c.toNat/\c.toNat<=57)\/c.toNat=45)
def named:Str->Nat
 |[]=>0
 |c::r=>if VO c then named r+1 else 0
theorem Tc{s:Str}{i:Nat}(h:(s.take i).all VO=true)(a:i<=s.length)(b:∀c,s[i]?=some c->VO c=false):named s=i:=by
 induction s generalizing i with
 |nil=>simp at a;subst a;rfl
 |cons c r d=>
  cases i with
  |zero=>
   have:=b c rfl;simp[named,this]
  |succ i=>
   simp only[List.take_succ_cons,List.all_cons,Bool.and_eq_true]at h;simp only[named,h.1,if_true];rw[d h.2 (by simpa using a) (by intro c e;exact b c (by simpa using e))]
theorem VP(s:Str):(s.take (named s)).all VO=true:=by
 induction s with
 |nil=>simp
 |cons c r a=>
  simp only[named];split
  .next h=>simp[h]at a |-;exact a
  simp
theorem Pb(s:Str):named s=s.length↔s.all VO=true:=by
 constructor
 .intro h;have:=VP s;rwa[h,List.take_length]at this
 intro h;exact Tc (by rw[List.take_length];exact h) (Nat.le_refl _) (by intro c a;simp at a)
def rz(s:Str):Bool:=decide (1<=s.length)&&decide (s.length<=24)&&s.all sgn
def upB(c:UInt8):UInt8:=if 97<=c/\c<=122 then c-32 else c
def upper(s:Str):Str:=s.map upB
theorem upB_yes{c:UInt8}(b:97<=c.toNat)(e:c.toNat<=122):(upB c).toNat=c.toNat-32:=by
 have a:(97:UInt8)<=c/\c<=122:=⟨by rw[UInt8.le_iff_toNat_le];simpa using b,by rw[UInt8.le_iff_toNat_le];simpa using e⟩;rw[upB,if_pos a,UInt8.toNat_sub_of_le]
 .rfl
 rw[UInt8.le_iff_toNat_le];simp;omega
theorem upB_no{c:UInt8}(h:¬(97<=c.toNat/\c.toNat<=122)):upB c=c:=by
 rw[upB,if_neg];rintro⟨a,b⟩;rw[UInt8.le_iff_toNat_le]at a b;exact h ⟨by simpa using a,by simpa using b⟩
theorem ahY(c:UInt8):upB c=c↔¬(97<=c.toNat/\c.toNat<=122):=by
 constructor
 .intro h a;have:=upB_yes a.1 a.2;rw[h]at this;omega
 exact upB_no
theorem afe(c:UInt8):sgn c=(VO c&&decide (upB c=c)):=by
 rw[Bool.eq_iff_iff];simp only[sgn,VO,Bool.and_eq_true,decide_eq_true_eq,ahY];omega
theorem ab1(s:Str):upper s=s↔∀c∈s,upB c=c:=by
 induction s with
 |nil=>simp[upper]
 |cons c r a=>simp only[upper,List.map_cons,List.cons.injEq,List.mem_cons,forall_eq_or_imp]at a |-;rw[a]
theorem aff(s:Str):s.all sgn=true↔s.all VO=true/\upper s=s:=by
 rw[ab1];simp only[List.all_eq_true,afe,Bool.and_eq_true,decide_eq_true_eq];exact⟨fun h=>⟨fun x a=>(h x a).1,fun x a=>(h x a).2⟩,fun h x a=>⟨h.1 x a,h.2 x a⟩⟩
def aaq:Str->Str
 |[]=>[]
 |[c]=>[c]
 |c::d::r=>if c.toNat=94 then (if d.toNat=94 then 94::aaq r else if d.toNat=110 then 10::aaq r else if d.toNat=39 then 34::aaq r else c::aaq (d::r))else c::aaq (d::r)
def esc:Str->Str
 |[]=>[]
 |c::r=>(if c.toNat=94 then [94,94]else if c.toNat=10 then [94,110]else if c.toNat=34 then [94,39]else [c])++esc r
def stp(c:UInt8):Bool:=decide (c.toNat=44\/c.toNat=58\/c.toNat=59)
def write(s:Str):Str:=if s.any stp then 34::(esc s++[34])else esc s
def sp(c:UInt8):UInt8:=if c.toNat=10 then 32 else c
def Pc(s:Str):Bool:=(Hx (s.map sp)).isNone
end Go.Vs.Pa
namespace Go.Vs.Y
open Go.Proofs Go.Vs.U8 Go.Vs.Pa
theorem Zf{c:UInt8}(h:VO c=true):(65<=c.toNat/\c.toNat<=90)\/(97<=c.toNat/\c.toNat<=122)\/(48<=c.toNat/\c.toNat<=57)\/c.toNat=45:=by simpa[VO]using h
theorem afg{c:UInt8}(h:VO c=false):c.toNat<45\/(45<c.toNat/\c.toNat<48)\/(57<c.toNat/\c.toNat<65)\/(90<c.toNat/\c.toNat<97)\/122<c.toNat:=by
 simp[VO]at h;omega
theorem ab2(s:Str)(o:s.length<1000000):Fn G T_ 84 [.str s] (.int .i64 (named s)):=by
 refine ae hm KD (by simp) ?_;simp[Bu];refine bx hm [] (fun i:Nat=>[(3,.val (.int .i64 i))]) (fun i=>[]) (fun i=>i<=s.length/\(s.take i).all VO=true) (fun i=>s.length-i) 0 ⟨by omega,by simp⟩ ?_ ?_
 .simp;exact bA
 rintro i ⟨l,f⟩;simp;by_cases h:i<s.length
 .obtain⟨c,b⟩:=A_ (s[i]);have g:s[i]?=some c:=by rw[<-b];exact List.getElem?_eq_getElem h
  have m:=abX c;cases e:VO c with
  |true=>
   have n:(s.take (i+1)).all VO=true:=by
    rw[List.take_succ_eq_append_getElem h,List.all_append,f,b];simp[e]
   rcases Zf e with a|a|a|a
   all_goals
    simp(disch:=omega)[wl,b];refine aj (i+1) ⟨by omega,n⟩ (by omega) ?_;simp;exact bA
  |false=>
   have j:named s=i:=Tc f l (by intro d k;rw[g]at k;cases k;exact e);rcases afg e with a|a|a|a|a
   all_goals
    simp(disch:=omega)[wl,b,j]
 obtain rfl:i=s.length:=by omega
 have j:named s=s.length:=(Pb s).2 (by simpa using f);simp(disch:=omega)[wl,j]
theorem ab3:Pa.upper=upper:=rfl
theorem Xo(s:Str)(h:s.length<1000000):Fn G T_ 51 [.str s] (.bool (rz s)):=by
 refine ae hm Nk (by simp) ?_;simp[En];have g:=ab2 s h;have i:=Kw s h;have e:=aff s;rw[ab3,<-Pb]at e;by_cases b:s=[]
 .subst b;simp(disch:=omega)[wl,rz]
 have k:0<s.length:=List.length_pos_iff.2 b;by_cases j:s.length<=24
 .by_cases c:named s=s.length
  .by_cases f:upper s=s
   .have a:rz s=true:=by simp[rz,j,e.2 ⟨c,f⟩];omega
    simp(disch:=omega)[wl,b];refine aa g ?_;simp(disch:=omega)[wl,c];refine aa i ?_;simp(disch:=omega)[wl,f,a]
   have a:rz s=false:=by
    cases d:s.all sgn with
    |true=>exact absurd (e.1 d).2 f
    |false=>simp[rz,d]
   simp(disch:=omega)[wl,b];refine aa g ?_;simp(disch:=omega)[wl,c];refine aa i ?_;simp(disch:=omega)[wl,f,a]
  have a:rz s=false:=by
   cases d:s.all sgn with
   |true=>exact absurd (e.1 d).1 c
   |false=>simp[rz,d]
  have l:¬((named s:Int)=s.length):=by omega
  simp(disch:=omega)[wl,b];refine aa g ?_;simp(disch:=omega)[wl,c,a]
 have a:rz s=false:=by simp[rz,j]
 simp(disch:=omega)[wl,b,a]
theorem ag5{c:UInt8}{n:Nat}(a:n<256):c=UInt8.ofNat n↔c.toNat=n:=by
 constructor
 .rintro rfl;simp;omega
 rintro h;exact UInt8.toNat_inj.1 (by simp;omega)
@[simp] theorem ajN:esc []=[]:=rfl
def parts(c:UInt8):Str->List Str
 |[]=>[[]]
 |x::r=>if x=c then []::parts c r else match parts c r with
  |[]=>[[x]]
  |p::ps=>(x::p)::ps
theorem tp(c:UInt8)(s:Str):parts c s≠[]:=by
 cases s with
 |nil=>simp[parts]
 |cons x r=>simp only[parts];split;simp;split<;>simp
theorem sC(c:UInt8)(s:Str):(parts c s).length=s.count c+1:=by
 induction s with
 |nil=>rfl
 |cons x r b=>
  simp only[parts];by_cases h:x=c
  .subst h;simp[b]
  have e:(x::r).count c=r.count c:=by rw[List.count_cons];simp[h]
  rw[if_neg h,e];split
  .next d=>exact absurd d (tp c r)
  next p ps d=>rw[d]at b;simpa using b
theorem tq{c:UInt8}{s:Str}(h:c∉s):parts c s=[s]:=by
 induction s with
 |nil=>rfl
 |cons x r a=>
  simp only[List.mem_cons,not_or]at h;simp[parts,Ne.symm h.1,a h.2]
theorem KF{c:UInt8}{s:Str}{i:Nat}(a:s[i]?=some c)(b:c∉s.take i):parts c s=s.take i::parts c (s.drop (i+1)):=by
 induction s generalizing i with
 |nil=>simp at a
 |cons x r d=>
  cases i with
  |zero=>simp at a;subst a;simp[parts]
  |succ i=>
   simp only[List.take_succ_cons,List.mem_cons,not_or]at b;rw[List.getElem?_cons_succ]at a;simp only[parts,if_neg (Ne.symm b.1),d a b.2,List.take_succ_cons,List.drop_succ_cons]
theorem KG(s:Str)(c:UInt8):Fn G T_ 260 [.str s,.int .u8 c.toNat] (.int .i64 (s.count c)):=by
 refine ON ⟨Tryz.f260,Tryz.func260,by decide⟩ ?_;rintro w S i ⟨g,_,rfl,a,h,_,rfl,b,d⟩;have a:g=.string ⟨s.toArray⟩:=a;have b:h=.int .u8 c.toNat:=b;have d:_=[]:=d;subst a;subst b;subst d;refine⟨.int .i64 (s.count c),?_,rfl⟩;have f:=run_callFunc_extern (P:=T_) Tryz.func260 (by kernel_rfl) (by kernel_rfl) (by kernel_rfl) (e:=Extern.BytealgCount.count) (by kernel_rfl) #[.string ⟨s.toArray⟩,.int .u8 c.toNat] w;rw[Go.Lib.run_countString]at f;have e1:((c.toNat:Int)).toNat.toUInt8=c:=by simp
 rw[e1]at f;exact f
theorem ab4(s:Str)(c:UInt8):Fn G T_ 232 [.str s,.str [c]] (.int .i64 (s.count c)):=by
 refine ae hm Gw (by simp) ?_;simp[yc];refine aa (KG s c) ?_;simp
theorem KH(s:Str)(c:UInt8):Fn G T_ 239 [.str s,.str [c]] (.int .i64 (qT s c)):=by
 refine ae hm qy (by simp) ?_;simp[jQ];refine brd (fun h=>?_) (fun h=>?_)
 .subst h;have:qT [c] c=0:=Qx (i:=0) rfl (by simp);simp[this]
 simp;refine aa (zi s c) ?_;simp
theorem Td(d:List Str)(p:Str)(k:Nat):(ts d++List.replicate (k+1) [IV.str []]).set d.length [.str p]=ts (d++[p])++List.replicate k [IV.str []]:=by
 have:d.length=(ts d).length:=by simp[ts]
 rw[this,List.set_append_right _ _ (Nat.le_refl _)];simp[ts,List.replicate_succ]
theorem bO(d:List Str):(ts d).length=d.length:=by simp[ts]
theorem Te(d:List Str)(k:Nat):(ts d++List.replicate (k+1) [IV.str []])[d.length]?=some [.str []]:=by
 rw[List.getElem?_append_right (by rw[bO];omega),bO];simp[List.replicate_succ]
theorem fn_Index(s:Str)(c:UInt8):Fn G T_ 233 [.str s,.str [c]] (.int .i64 (qT s c)):=by
 refine ae hm Gx (by simp) ?_;simp[ye];refine aa (KH s c) ?_;simp
theorem Tf(s:Str)(c:UInt8)(z:s.length<1000000):Fn G T_ 190 [.str s,.str [c],.int .i64 0,.int .i64 (-1)] (.slice (ts (parts c s))):=by
 refine ae hm B1 (by simp) ?_;simp[tj];have A:s.count c<=s.length:=List.count_le_length;have f:min ((s.count c:Int)+1) (s.length+1)=s.count c+1:=by omega
 refine aa (ab4 s c) ?_;simp(disch:=omega)[wl,f];refine⟨by omega,?_⟩;refine bx hm [] (fun x:List Str×Str=>[(0,.val (.str x.2)),(3,.val (.int .i64 (s.count c))),(10,.val (.int .i64 x.1.length))]) (fun x=>[(31,.arr 0 1 (ts x.1++List.replicate (x.2.count c+1) [.str []]))]) (fun x=>x.2.length<=s.length/\x.1.length+x.2.count c=s.count c/\x.1++parts c x.2=parts c s) (fun x=>x.2.length) ([],s) ⟨by simp,by simp,by simp⟩ ?_ ?_
 .simp[ts];exact bA
 rintro⟨d,t⟩ ⟨q,u,k⟩;simp at q u k;simp;by_cases h:d.length<s.count c
 .have g:0<t.count c:=by omega
  have i:c∈t:=List.count_pos_iff.1 g;rcases th t c with⟨_,j⟩|⟨m,v,o,w⟩
  .exact absurd i j
  have p:=fn_Index t c;rw[v]at p;obtain⟨y,_⟩:=List.getElem?_eq_some_iff.1 o;have a:=KF o w;have b:=Td d (t.take m) (t.count c);simp(disch:=omega)[wl,h];refine aa p ?_;have e:=Te d (t.count c)
  have l:(t.drop (m+1)).count c+1=t.count c:=by
   have:=sC c t;rw[a,List.length_cons,sC]at this;omega
  simp(disch:=omega)[wl,bO,e,b];refine⟨by omega,by omega,?_⟩;refine aj (d++[t.take m],t.drop (m+1)) ⟨by simp;omega,by simp;omega,?_⟩ (by simp;omega) ?_
  .rw[<-k,a];simp
  simp[l];exact bA
 have j:t.count c=0:=by omega
 have n:c∉t:=List.count_eq_zero.1 j;have a:=tq n;have b:=Td d t 0;have e:=Te d 0;simp at b e;simp(disch:=omega)[wl,h,j,bO,e,b];refine⟨by omega,?_⟩;rw[<-k,a,List.take_of_length_le (by rw[bO];simp)]
theorem zl(s:Str)(c:UInt8)(a:s.length<1000000):Fn G T_ 134 [.str s,.str [c]] (.slice (ts (parts c s))):=by
 refine ae hm Gv (by simp) ?_;simp[y8];refine aa (Tf s c a) ?_;simp
theorem VQ{c:UInt8}{r p:Str}{ps:List Str}(h:parts c r=p::ps):(∀k,k<p.length->r[k]?=p[k]?/\r[k]?≠some c)/\(r[p.length]?=none\/r[p.length]?=some c):=by
 induction r generalizing p ps with
 |nil=>simp[parts]at h;obtain⟨rfl,rfl⟩:=h;simp
 |cons x r b=>
  simp only[parts]at h;by_cases a:x=c
  .rw[if_pos a]at h;simp at h;obtain⟨rfl,rfl⟩:=h;simp[a]
  rw[if_neg a]at h;split at h
  .next d=>exact absurd d (tp c r)
  next q j e=>
  simp at h;obtain⟨rfl,rfl⟩:=h;obtain⟨f,g⟩:=b e;refine⟨fun k i=>?_,by simpa using g⟩;cases k with
  |zero=>simp[a]
  |succ k=>simpa using f k (by simpa using i)
theorem Pd{c:UInt8} : ∀ {z:Nat} {r p:Str} {ps:List Str},parts c r=p::ps->z<=p.length->parts c (r.drop z)=p.drop z::ps
 |0,r,p,ps,h,_=>h
 |z+1,[],p,ps,h,a=>by simp[parts]at h;obtain⟨rfl,rfl⟩:=h;simp at a
 |z+1,x::r,p,ps,h,a=>by
  simp only[parts]at h;by_cases b:x=c
  .rw[if_pos b]at h;simp at h;obtain⟨rfl,rfl⟩:=h;simp at a
  rw[if_neg b]at h;split at h
  .next d=>exact absurd d (tp c r)
  next q e f=>
  simp at h;obtain⟨rfl,rfl⟩:=h;show parts c (r.drop z)=q.drop z::e;exact Pd f (by simpa using a)
theorem QH{r p:Str}{ps:List Str}(h:parts 10 r=p::ps){k lo hi:Nat}(f:128<=lo)(i:k<=p.length):tl p k lo hi=tl (r.map sp) k lo hi:=by
 obtain⟨g,b⟩:=VQ h;unfold tl;rw[List.getElem?_map];by_cases a:k<p.length
 .obtain⟨c,d⟩:=g k a;rw[c,List.getElem?_eq_getElem a];rw[c,List.getElem?_eq_getElem a]at d;have:p[k].toNat≠10:=fun e=>d (by rw[<-UInt8.toNat_inj.1 (show p[k].toNat=(10:UInt8).toNat from e)])
  simp[sp,this]
 obtain rfl:k=p.length:=by omega
 rw[List.getElem?_eq_none (Nat.le_refl _)];rcases b with b|b
 .rw[b];rfl
 rw[b];simp[sp];omega
theorem Zg{r p:Str}{ps:List Str}(c:UInt8)(h:parts 10 r=p::ps):gh (c::p)=gh (c::r.map sp):=by
 have b:∀n,128<=lo1 n:=by
  intro n;unfold lo1;split
  .omega
  split<;>omega
 have t0:=fun lo hi (a:128<=lo)=>QH h (k:=0) (lo:=lo) (hi:=hi) a (by omega)
 have e1:∀lo hi,128<=lo->(tl p 0 lo hi&&tl p 1 128 191)=(tl (r.map sp) 0 lo hi&&tl (r.map sp) 1 128 191):=by
  intro lo hi a;by_cases f:1<=p.length
  .rw[t0 lo hi a,QH h (by omega) f]
  have:tl p 0 lo hi=false:=by
   cases g:tl p 0 lo hi with
   |false=>rfl
   |true=>have:=Kr g;omega
  rw[<-t0 lo hi a,this];rfl
 have e2:∀lo hi,128<=lo->(tl p 0 lo hi&&tl p 1 128 191&&tl p 2 128 191)=(tl (r.map sp) 0 lo hi&&tl (r.map sp) 1 128 191&&tl (r.map sp) 2 128 191):=by
  intro lo hi a;by_cases f:2<=p.length
  .rw[e1 lo hi a,QH h (by omega) f]
  have:tl p 1 128 191=false:=by
   cases g:tl p 1 128 191 with
   |false=>rfl
   |true=>have:=Kr g;omega
  rw[<-e1 lo hi a,this];simp
 simp only[gh];rw[t0 128 191 (by omega)];have d:=e1 (lo1 c.toNat) (Ng c.toNat) (b _);have e:=e2 (lo1 c.toNat) (Ng c.toNat) (b _);simp only[Bool.and_assoc]at d e |-;rw[d,e]
theorem Gy:∀(n:Nat) (v:Str),v.length<=n->(Hx (v.map sp)=none↔∀p∈parts 10 v,Hx p=none)
 |_,[],_=>by simp[parts]
 |n+1,c::r,i=>by
  rw[List.map_cons,Ei (by simp)];by_cases b:c=10
  .subst b;have j:rr (sp 10::r.map sp)=false:=by simp[rr,gh,sp]
   have a:gh (sp 10::r.map sp)=1:=by simp[gh,sp]
   rw[j,a];simp only[Bool.false_eq_true,if_false,Option.map_eq_none_iff,List.drop_succ_cons,List.drop_zero];rw[Gy n r (by simpa using i)];simp[parts]
  have d:c.toNat≠10:=fun e=>b (UInt8.toNat_inj.1 e)
  have f:sp c=c:=by simp[sp,d]
  obtain⟨p,ps,g⟩:=List.exists_cons_of_ne_nil (tp 10 r);have o:parts 10 (c::r)=(c::p)::ps:=by simp[parts,b,g]
  have k:=Zg c g;rw[o,f,List.forall_mem_cons,Ei (l:=c::p) (by simp)];have m:rr (c::p)=rr (c::r.map sp):=by simp only[rr,k]
  rw[m,<-k];cases q:rr (c::r.map sp)with
  |true=>simp
  |false=>
   have j:1<=gh (c::p):=D7 (by rw[m];exact q) (by simp);have a:=T5 (c::p);obtain⟨z,h⟩:∃z,gh (c::p)=z+1:=⟨gh (c::p)-1,by omega⟩;rw[h]at a |-;simp only[Bool.false_eq_true,if_false,Option.map_eq_none_iff,List.drop_succ_cons];have s:=Pd g (z:=z) (by simpa using a);rw[<-List.map_drop,Gy n (r.drop z) (by simp at i |-;omega),s,List.forall_mem_cons]
theorem VR(v:Str):Pc v=true↔∀p∈parts 10 v,Hx p=none:=by
 rw[<-Gy v.length v (Nat.le_refl _)];simp[Pc]
theorem nJ{c:UInt8} : ∀ {v p:Str},p∈parts c v->p.length<=v.length
 |[],p,h=>by simp[parts]at h;simp[h]
 |x::r,p,h=>by
  simp only[parts]at h;split at h
  .rcases List.mem_cons.1 h with rfl|h
   .simp
   have:=nJ h;simp;omega
  split at h
  .next b=>exact absurd b (tp c r)
  next q d e=>
  have a:∀p,p∈q::d->p.length<=r.length:=fun p hm=>nJ (by rw[e];exact hm)
  rcases List.mem_cons.1 h with rfl|h
  .have:=a q (by simp);simp;omega
  have:=a p (by simp[h]);simp;omega
structure Pm where
 n:Str
 v:List Str
 deriving DecidableEq
def Pm.iv(p:Pm):IV:=.agg [.str p.n,.slice (ts p.v)]
def ps(l:List Pm):List (List IV):=l.map fun p=>[.str p.n,.slice (ts p.v)]
theorem dk(l:List Pm):(ps l).length=l.length:=by simp[ps]
theorem xt{d:List Str}{i:Nat}{x:Str}(h:i<d.length)(a:d[i]=x):(ts d)[i]?=some [.str x]:=by simp[ts,h,a]
theorem Gz{d:List Pm}{i:Nat}{x:Pm}(h:i<d.length)(a:d[i]=x):(ps d)[i]?=some [.str x.n,.slice (ts x.v)]:=by simp[ps,h,a]
def Da:List Str->Int
 |[]=>0
 |x::r=>if 60<x.length then 5 else if Pc x then Da r else 10
def xu(p:Pm):Int:=if rz p.n then (if p.v.length=0\/6<p.v.length then 20 else Da p.v)else 4
theorem ab5(p:Pm)(I:p.n.length<1000000):Fn G T_ 86 [p.iv] (.int .i64 (xu p)):=by
 refine ae hm KE (by simp) ?_;simp[Bw,Pm.iv];refine aa (Xo p.n I) ?_;obtain⟨n,v⟩:=p;simp only at *;cases z:rz n with
 |false=>simp[xu,z]
 |true=>
  have d:xu ⟨n,v⟩=if v.length=0\/6<v.length then 20 else Da v:=by simp[xu,z]
  simp[bO];by_cases A:v.length=0
  .rw[if_pos (by omega)]at d;obtain rfl:v=[]:=List.length_eq_zero_iff.1 A;simp(disch:=omega)[wl,bO,d]
  have f:¬v=[]:=fun e=>A (by rw[e];rfl)
  by_cases M:6<v.length
  .rw[if_pos (by omega)]at d;simp(disch:=omega)[wl,bO,d,f]
  rw[if_neg (by omega)]at d;rw[d];simp(disch:=omega)[wl,bO,f];refine bx hm [] (fun i:Nat=>[(24,.val (.int .i64 i))]) (fun i=>[]) (fun i=>i<=v.length/\Da (v.drop i)=Da v) (fun i=>v.length-i) 0 ⟨by omega,by simp⟩ ?_ ?_
  .simp;exact bA
  rintro i ⟨N,a⟩;simp[bO];by_cases h:i<v.length
  .obtain⟨x,B⟩:=A_ (v[i]);have C:=xt h B;have J:v.drop i=x::v.drop (i+1):=by rw[<-B];exact List.drop_eq_getElem_cons h
   rw[J,Da]at a;by_cases D:60<x.length
   .rw[if_pos D]at a;simp(disch:=omega)[wl,bO,C,<-a]
   rw[if_neg D]at a;have E:=zl x 10 (by omega);have c:=VR x;have g:∀p∈parts 10 x,p.length<1000000:=fun p b=>by have:=nJ b;omega
   have m:(parts 10 x).length<=100:=by
    rw[sC];have:x.count 10<=x.length:=List.count_le_length;omega
   obtain⟨P,o⟩:=A_ (parts 10 x);rw[o]at E c g m;simp(disch:=omega)[wl,bO,C];refine aa E ?_;simp(disch:=omega)[wl,bO];refine bx hm [] (fun j:Nat=>[(34,.val (.int .i64 j))]) (fun i=>[]) (fun j=>j<=P.length/\∀p∈P.take j,Hx p=none) (fun j=>P.length-j) 0 ⟨by omega,by simp⟩ ?_ ?_
   .simp;exact bA
   rintro j ⟨O,F⟩;simp[bO];by_cases q:j<P.length
   .obtain⟨y,s⟩:=A_ (P[j]);have u:=xt q s;have l:y∈P:=s▸List.getElem_mem q;have K:=abY y (g y l);simp(disch:=omega)[wl,bO,u];refine aa K ?_;cases H:Hx y with
    |some k=>
     have w:Pc x=false:=by
      cases L:Pc x with
      |false=>rfl
      |true=>have:=c.1 L y l;rw[H]at this;cases this
     rw[w]at a;simp at a;simp(disch:=omega)[wl,T6,<-a]
    |none=>
     simp(disch:=omega)[wl,T6];refine aj (j+1) ⟨by omega,?_⟩ (by omega) ?_
     .intro p b;rw[List.take_succ_eq_append_getElem q,List.mem_append]at b;rcases b with b|b
      .exact F p b
      rw[List.mem_singleton.1 b,s];exact H
     simp;exact bA
   obtain rfl:j=P.length:=by omega
   have w:Pc x=true:=c.2 (by simpa using F);rw[w]at a;simp at a;simp(disch:=omega)[wl];refine aj (i+1) ⟨by omega,a⟩ (by omega) ?_;simp;exact bA
  obtain rfl:i=v.length:=by omega
  simp[Da]at a;simp[<-a]
theorem fn_Clone(v:List Str)(d:v.length<1000000):Fn G T_ 110 [.slice (ts v)] (.slice (ts v)):=by
 refine ae hm xq (by simp) ?_;simp[ph];cases v with
 |nil=>
  simp[ts]
 |cons x r=>
  have b:=bO (x::r);simp only[List.length_cons]at b d;have:ts (x::r)=[.str x]::ts r:=rfl;rw[this]at b |-;simp at b;simp(disch:=omega)[wl,b];exact⟨by omega,fun a c=>by simp[ts]at c;obtain⟨y,_,rfl⟩:=c;rfl⟩
def ab6(l:List Pm)(n:Str):Bool:=l.any fun p=>decide (p.n=n)
def ij(l:List Pm)(n:Str):Option Pm:=l.find? fun p=>decide (p.n=n)
def tr:Option Pm->IV
 |some p=>.tuple [p.iv,.bool true]
 |none=>.tuple [(⟨[],[]⟩:Pm).iv,.bool false]
theorem ab7{l:List Pm}{i:Nat}{p:Pm}{n:Str}(h:i<l.length)(a:l[i]=p):ij (l.drop i) n=if p.n=n then some p else ij (l.drop (i+1)) n:=by
 rw[List.drop_eq_getElem_cons h,a];by_cases e:p.n=n<;>simp[ij,e]
theorem Ja(l:List Pm)(n:Str)(m:l.length<1000000)(f:∀p∈l,p.v.length<1000000):Fn G T_ 87 [.slice (ps l),.str n] (tr (ij l n)):=by
 refine ae hm Nl (by simp) ?_;simp[Er,dk];refine bx hm [] (fun i:Nat=>[(10,.val (.int .i64 i))]) (fun i=>[]) (fun i=>i<=l.length/\ij (l.drop i) n=ij l n) (fun i=>l.length-i) 0 ⟨by omega,by simp⟩ ?_ ?_
 .simp;exact bA
 rintro i ⟨o,a⟩;simp[dk];by_cases h:i<l.length
 .obtain⟨p,d⟩:=A_ (l[i]);have e:=Gz h d;rw[ab7 h d]at a;have g:=fn_Clone p.v (f p (d▸List.getElem_mem h));by_cases b:p.n=n
  .simp[b]at a;simp(disch:=omega)[wl,dk,e,b];refine aa g ?_;simp(disch:=omega)[wl];refine⟨rfl,?_⟩;rw[<-a];simp[tr,Pm.iv,b]
  simp[b]at a;simp(disch:=omega)[wl,dk,e,b];refine aj (i+1) ⟨by omega,a⟩ (by omega) ?_;simp;exact bA
 obtain rfl:i=l.length:=by omega
 have j:ij l n=none:=by rw[<-a];simp[ij]
 simp(disch:=omega)[wl,j,tr,Pm.iv];rfl
def jU:List Pm->Int
 |[]=>0
 |p::r=>if xu p=0 then jU r else xu p
def vr:List Pm->List Pm->Bool
 |_,[]=>false
 |a,p::r=>ab6 a p.n||vr (a++[p]) r
def je(l:List Pm):Int:=if 6<l.length then 20 else if jU l=0 then (if vr [] l then 19 else 0)else jU l
theorem Tg{l:List Pm}{i:Nat}{p:Pm}(h:i<l.length)(a:l[i]=p):jU (l.drop i)=if xu p=0 then jU (l.drop (i+1))else xu p:=by
 rw[List.drop_eq_getElem_cons h,a];rfl
theorem ab8{l:List Pm}{i:Nat}{p:Pm}(h:i<l.length)(a:l[i]=p):vr (l.take i) (l.drop i)=(ab6 (l.take i) p.n||vr (l.take (i+1)) (l.drop (i+1))):=by
 rw[List.drop_eq_getElem_cons h,a,List.take_succ_eq_append_getElem h,a];rfl
theorem ab9(l:List Pm)(n:Str):ab6 l n=(ij l n).isSome:=by
 induction l with
 |nil=>rfl
 |cons p r a=>
  by_cases e:p.n=n
  .simp[ab6,ij,e]
  simp only[ab6,ij,List.any_cons,List.find?_cons]at a |-;simp[e,a]
theorem afh(l:List Pm):∀b,b∈ps l->b.length=2:=fun a c=>by simp[ps]at c;obtain⟨y,_,rfl⟩:=c;rfl
theorem afi(l:List Pm)(i:Nat):(ps l).take i=ps (l.take i):=by simp[ps,List.map_take]
structure Fit(l:List Pm):Prop where
 n:∀p∈l,p.n.length<100000
 v:∀p∈l,p.v.length<100000
 t:∀p∈l,∀s∈p.v,s.length<10000
theorem Th(l:List Pm)(x:l.length<100000)(m:Fit l):Fn G T_ 52 [.slice (ps l)] (.int .i64 (je l)):=by
 refine ae hm Ep (by simp) ?_;simp[wu,dk];by_cases n:6<l.length
 .simp(disch:=omega)[wl,je,n,dk]
 have s:je l=if jU l=0 then (if vr [] l then 19 else 0)else jU l:=by rw[je,if_neg n]
 rw[s];simp(disch:=omega)[wl,dk];refine bx hm [] (fun i:Nat=>[(15,.val (.int .i64 i))]) (fun i=>[]) (fun i=>i<=l.length/\jU (l.drop i)=jU l) (fun i=>l.length-i) 0 ⟨by omega,by simp⟩ ?_ ?_
 .simp;exact bA
 rintro i ⟨y,b⟩;simp[dk];by_cases h:i<l.length
 .obtain⟨p,c⟩:=A_ (l[i]);have g:p∈l:=c▸List.getElem_mem h;have k:=Gz h c;have u:=ab5 p (by have:=m.n p g;omega);rw[Tg h c]at b;simp(disch:=omega)[wl,dk,k];refine aa u ?_;by_cases e:xu p=0
  .rw[if_pos e]at b;simp(disch:=omega)[wl,e];refine aj (i+1) ⟨by omega,b⟩ (by omega) ?_;simp;exact bA
  rw[if_neg e]at b;have:¬jU l=0:=by rw[<-b];exact e
  rw[if_neg this,<-b];simp(disch:=omega)[wl,e]
 obtain rfl:i=l.length:=by omega
 have f:jU l=0:=by rw[<-b];simp[jU]
 rw[if_pos f];simp(disch:=omega)[wl,dk];refine bx hm [] (fun i:Nat=>[(27,.val (.int .i64 i))]) (fun i=>[]) (fun i=>i<=l.length/\vr (l.take i) (l.drop i)=vr [] l) (fun i=>l.length-i) 0 ⟨by omega,by simp⟩ ?_ ?_
 .simp;exact bA
 rintro j ⟨z,d⟩;simp[dk];by_cases h:j<l.length
 .obtain⟨p,c⟩:=A_ (l[j]);have k:=Gz h c;have v:=Ja (l.take j) p.n (by simp;omega) (fun q w=>by have:=m.v q (List.mem_of_mem_take w);omega);have a:=ab9 (l.take j) p.n;rw[ab8 h c]at d;simp(disch:=omega)[wl,dk,k,afi];refine⟨⟨by omega,afh l⟩,?_⟩;refine aa v ?_;cases o:ij (l.take j) p.n with
  |some q=>
   rw[o]at a;rw[a]at d;have f:vr [] l=true:=by rw[<-d];rfl
   simp[f,tr,Pm.iv];rfl
  |none=>
   rw[o]at a;rw[a]at d;simp(disch:=omega)[wl,tr,Pm.iv];refine⟨rfl,?_⟩;refine aj (j+1) ⟨by omega,by simpa using d⟩ (by omega) ?_;simp;exact bA
 obtain rfl:j=l.length:=by omega
 have f:vr [] l=false:=by rw[<-d];simp[vr]
 simp(disch:=omega)[wl,f]
theorem Zh{l:List Str}(h:l≠[])(x a:Str):Go.Lib.join (l++[x]) a=Go.Lib.join l a++(a++x):=by
 obtain⟨y,r,rfl⟩:=List.exists_cons_of_ne_nil h;rw[List.cons_append,Go.Lib.join_cons,Go.Lib.join_cons];simp[Go.Lib.joinTail]
theorem EM(k:Nat):∀l:List Str,(∀x∈l,x.length<=k)->(Go.Lib.join l [44]).length<=l.length*(k+1):=by
 intro l h;cases l with
 |nil=>simp[Go.Lib.join_nil]
 |cons y r=>
  have f:=h y (by simp);have d:∀x∈r,x.length<=k:=fun x a=>h x (by simp[a])
  clear h;rw[Go.Lib.join_cons,List.length_append,List.length_cons,Nat.succ_mul]
  have:(Go.Lib.joinTail [44] r).length<=r.length*(k+1):=by
   induction r with
   |nil=>simp[Go.Lib.joinTail]
   |cons z t e=>
    have g:=d z (by simp);have:=e (fun x a=>d x (by simp[a]));simp only[Go.Lib.joinTail,List.map_cons,List.flatten_cons,List.length_append,List.length_cons,List.length_nil,Nat.succ_mul]at this |-;omega
  omega
end Go.Vs.Y
