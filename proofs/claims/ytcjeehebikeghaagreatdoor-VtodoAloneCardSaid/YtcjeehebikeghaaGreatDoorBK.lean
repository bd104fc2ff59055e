/- A part of a proof. No conditions. -/
import Derived.Test.YtcjeehebikeghaaGreatDoorBJ
import Derived.Shelf.Strings.IndexAnyAll
import Derived.Lib.Join
set_option linter.unusedVariables false
set_option linter.unusedSimpArgs false
set_option maxRecDepth 100000
set_option maxHeartbeats 4000000
namespace Go.Vs.Pa
open Go.Vs.U8
def Wd(c:UInt8):Bool:=decide ((65<=c.toNat/\c.toNat<=90)\/(48<=c.toNat/\c.toNat<=57)\/c.toNat=45)
def Lg(c:UInt8):Bool:=decide ((65<=c.toNat/\c.toNat<=90)\/(97<=c.toNat/\c.toNat<=122)\/(48<=c.toNat/\c.toNat<=57)\/c.toNat=45)
def named:Str->Nat
 |[]=>0
 |c::r=>if Lg c then named r+1 else 0
theorem Jt{s:Str}{i:Nat}(h:(s.take i).all Lg=true)(hi:i<=s.length)(hn:∀c,s[i]?=some c->Lg c=false):named s=i:=by
 induction s generalizing i with
 |nil=>simp at hi;subst hi;rfl
 |cons c r ih=>
  cases i with
  |zero=>
   have:=hn c rfl;simp[named,this]
  |succ i=>
   simp only[List.take_succ_cons,List.all_cons,Bool.and_eq_true]at h;simp only[named,h.1,if_true];rw[ih h.2 (by simpa using hi) (by intro c hc;exact hn c (by simpa using hc))]
theorem Lh(s:Str):(s.take (named s)).all Lg=true:=by
 induction s with
 |nil=>simp
 |cons c r ih=>
  simp only[named];split
  ·next h=>simp[h]at ih |-;exact ih
  ·simp
theorem G8(s:Str):named s=s.length↔s.all Lg=true:=by
 constructor
 ·intro h;have:=Lh s;rwa[h,List.take_length]at this
 ·intro h;exact Jt (by rw[List.take_length];exact h) (Nat.le_refl _) (by intro c hc;simp at hc)
def mS(s:Str):Bool:=decide (1<=s.length)&&decide (s.length<=24)&&s.all Wd
def upB(c:UInt8):UInt8:=if 97<=c/\c<=122 then c-32 else c
def upper(s:Str):Str:=s.map upB
theorem upB_yes{c:UInt8}(h1:97<=c.toNat)(h2:c.toNat<=122):(upB c).toNat=c.toNat-32:=by
 have a:(97:UInt8)<=c/\c<=122:=⟨by rw[UInt8.le_iff_toNat_le];simpa using h1,by rw[UInt8.le_iff_toNat_le];simpa using h2⟩;rw[upB,if_pos a,UInt8.toNat_sub_of_le]
 ·rfl
 ·rw[UInt8.le_iff_toNat_le];simp;omega
theorem upB_no{c:UInt8}(h:¬(97<=c.toNat/\c.toNat<=122)):upB c=c:=by
 rw[upB,if_neg];rintro⟨a,b⟩;rw[UInt8.le_iff_toNat_le]at a b;exact h ⟨by simpa using a,by simpa using b⟩
theorem Vl(c:UInt8):upB c=c↔¬(97<=c.toNat/\c.toNat<=122):=by
 constructor
 ·intro h hc;have:=upB_yes hc.1 hc.2;rw[h]at this;omega
 ·exact upB_no
theorem T2(c:UInt8):Wd c=(Lg c&&decide (upB c=c)):=by
 rw[Bool.eq_iff_iff];simp only[Wd,Lg,Bool.and_eq_true,decide_eq_true_eq,Vl];omega
theorem Qq(s:Str):upper s=s↔∀c∈s,upB c=c:=by
 induction s with
 |nil=>simp[upper]
 |cons c r ih=>simp only[upper,List.map_cons,List.cons.injEq,List.mem_cons,forall_eq_or_imp]at ih |-;rw[ih]
theorem T3(s:Str):s.all Wd=true↔s.all Lg=true/\upper s=s:=by
 rw[Qq];simp only[List.all_eq_true,T2,Bool.and_eq_true,decide_eq_true_eq];exact⟨fun h=>⟨fun x hx=>(h x hx).1,fun x hx=>(h x hx).2⟩,fun h x hx=>⟨h.1 x hx,h.2 x hx⟩⟩
def CU:Str->Str
 |[]=>[]
 |[c]=>[c]
 |c::d::r=>if c.toNat=94 then (if d.toNat=94 then 94::CU r else if d.toNat=110 then 10::CU r else if d.toNat=39 then 34::CU r else c::CU (d::r))else c::CU (d::r)
def X4:Str->Str
 |[]=>[]
 |c::r=>(if c.toNat=94 then [94,94]else if c.toNat=10 then [94,110]else if c.toNat=34 then [94,39]else [c])++X4 r
def XE(c:UInt8):Bool:=decide (c.toNat=44\/c.toNat=58\/c.toNat=59)
def write(s:Str):Str:=if s.any XE then 34::(X4 s++[34])else X4 s
def sp(c:UInt8):UInt8:=if c.toNat=10 then 32 else c
def G9(s:Str):Bool:=(zz (s.map sp)).isNone
end Go.Vs.Pa
namespace Go.Vs.YtcjeehebikeghaaGreatDoor
open Go.Proofs Go.Vs.U8 Go.Vs.Pa
theorem NW{c:UInt8}(h:Lg c=true):(65<=c.toNat/\c.toNat<=90)\/(97<=c.toNat/\c.toNat<=122)\/(48<=c.toNat/\c.toNat<=57)\/c.toNat=45:=by simpa[Lg]using h
theorem T4{c:UInt8}(h:Lg c=false):c.toNat<45\/(45<c.toNat/\c.toNat<48)\/(57<c.toNat/\c.toNat<65)\/(90<c.toNat/\c.toNat<97)\/122<c.toNat:=by
 simp[Lg]at h;omega
theorem Qr(s:Str)(hs:s.length<1000000):Fn G T_ 140 [.str s] (.int .i64 (named s)):=by
 refine ag hm CS (by simp) ?_;simp[vr];refine ce hm [] (fun i:Nat=>[(3,.val (.int .i64 i))]) (fun i=>[]) (fun i=>i<=s.length/\(s.take i).all Lg=true) (fun i=>s.length-i) 0 ⟨by omega,by simp⟩ ?_ ?_
 ·simp;exact bQ
 rintro i ⟨hi,ha⟩;simp;by_cases h:i<s.length
 ·obtain⟨c,hc⟩:∃c,s[i]=c:=⟨_,rfl⟩;have hc':s[i]?=some c:=by rw[<-hc];exact List.getElem?_eq_getElem h
  have hlt:=Qk c;cases hn:Lg c with
  |true=>
   have ht:(s.take (i+1)).all Lg=true:=by
    rw[List.take_succ_eq_append_getElem h,List.all_append,ha,hc];simp[hn]
   rcases NW hn with h1|h1|h1|h1
   all_goals
    simp(disch:=omega)[wl,hc];refine au (i+1) ⟨by omega,ht⟩ (by omega) ?_;simp;exact bQ
  |false=>
   have hr:named s=i:=Jt ha hi (by intro d hd;rw[hc']at hd;cases hd;exact hn);rcases T4 hn with h1|h1|h1|h1|h1
   all_goals
    simp(disch:=omega)[wl,hc,hr]
 ·obtain rfl:i=s.length:=by omega
  have hr:named s=s.length:=(G8 s).2 (by simpa using ha);simp(disch:=omega)[wl,hr]
theorem Qs:Pa.upper=upper:=rfl
theorem Mj(s:Str)(hs:s.length<1000000):Fn G T_ 91 [.str s] (.bool (mS s)):=by
 refine ag hm EK (by simp) ?_;simp[xZ];have hN:=Qr s hs;have hU:=CN s hs;have ha:=T3 s;rw[Qs,<-G8]at ha;by_cases h0:s=[]
 ·subst h0;simp(disch:=omega)[wl,mS]
 have h0':0<s.length:=List.length_pos_iff.2 h0;by_cases h1:s.length<=24
 ·by_cases h2:named s=s.length
  ·by_cases h3:upper s=s
   ·have hr:mS s=true:=by simp[mS,h1,ha.2 ⟨h2,h3⟩];omega
    simp(disch:=omega)[wl,h0];refine aa hN ?_;simp(disch:=omega)[wl,h2];refine aa hU ?_;simp(disch:=omega)[wl,h3,hr]
   ·have hr:mS s=false:=by
     cases hh:s.all Wd with
     |true=>exact absurd (ha.1 hh).2 h3
     |false=>simp[mS,hh]
    simp(disch:=omega)[wl,h0];refine aa hN ?_;simp(disch:=omega)[wl,h2];refine aa hU ?_;simp(disch:=omega)[wl,h3,hr]
  ·have hr:mS s=false:=by
    cases hh:s.all Wd with
    |true=>exact absurd (ha.1 hh).1 h2
    |false=>simp[mS,hh]
   have h2':¬((named s:Int)=s.length):=by omega
   simp(disch:=omega)[wl,h0];refine aa hN ?_;simp(disch:=omega)[wl,h2,hr]
 ·have hr:mS s=false:=by simp[mS,h1]
  simp(disch:=omega)[wl,h0,hr]
theorem u8_is{c:UInt8}{n:Nat}(hn:n<256):c=UInt8.ofNat n↔c.toNat=n:=by
 constructor
 ·rintro rfl;simp;omega
 ·rintro h;exact UInt8.toNat_inj.1 (by simp;omega)
@[simp] theorem X5:X4 []=[]:=rfl
def parts(c:UInt8):Str->List Str
 |[]=>[[]]
 |x::r=>if x=c then []::parts c r else match parts c r with
  |[]=>[[x]]
  |p::ps=>(x::p)::ps
theorem qr(c:UInt8)(s:Str):parts c s≠[]:=by
 cases s with
 |nil=>simp[parts]
 |cons x r=>simp only[parts];split;simp;split<;>simp
theorem nN(c:UInt8)(s:Str):(parts c s).length=s.count c+1:=by
 induction s with
 |nil=>rfl
 |cons x r ih=>
  simp only[parts];by_cases h:x=c
  ·subst h;simp[ih]
  ·have h1:(x::r).count c=r.count c:=by rw[List.count_cons];simp[h]
   rw[if_neg h,h1];split
   ·next hp=>exact absurd hp (qr c r)
   ·next p ps hp=>rw[hp]at ih;simpa using ih
theorem wV{c:UInt8}{s:Str}(h:c∉s):parts c s=[s]:=by
 induction s with
 |nil=>rfl
 |cons x r ih=>
  simp only[List.mem_cons,not_or]at h;simp[parts,Ne.symm h.1,ih h.2]
theorem Ju{c:UInt8}{s:Str}{i:Nat}(h1:s[i]?=some c)(h2:c∉s.take i):parts c s=s.take i::parts c (s.drop (i+1)):=by
 induction s generalizing i with
 |nil=>simp at h1
 |cons x r ih=>
  cases i with
  |zero=>simp at h1;subst h1;simp[parts]
  |succ i=>
   simp only[List.take_succ_cons,List.mem_cons,not_or]at h2;rw[List.getElem?_cons_succ]at h1;simp only[parts,if_neg (Ne.symm h2.1),ih h1 h2.2,List.take_succ_cons,List.drop_succ_cons]
theorem CV(s:Str)(c:UInt8):Fn G T_ 359 [.str s,.int .u8 c.toNat] (.int .i64 (s.count c)):=by
 refine FO ⟨Tryz.f359,Tryz.func359,by decide⟩ ?_;rintro w S vs ⟨v1,_,rfl,h1,v2,_,rfl,h2,h3⟩;have h1:v1=.string ⟨s.toArray⟩:=h1;have h2:v2=.int .u8 c.toNat:=h2;have h3:_=[]:=h3;subst h1;subst h2;subst h3;refine⟨.int .i64 (s.count c),?_,rfl⟩;have hr:=run_callFunc_extern (P:=T_) Tryz.func359 (by kernel_rfl) (by kernel_rfl) (by kernel_rfl) (e:=Extern.BytealgCount.count) (by kernel_rfl) #[.string ⟨s.toArray⟩,.int .u8 c.toNat] w;rw[Go.Lib.run_countString]at hr;have e1:((c.toNat:Int)).toNat.toUInt8=c:=by simp
 rw[e1]at hr;exact hr
theorem Qt(s:Str)(c:UInt8):Fn G T_ 320 [.str s,.str [c]] (.int .i64 (s.count c)):=by
 refine ag hm zF (by simp) ?_;simp[rP];refine aa (CV s c) ?_;simp
theorem CW(s:Str)(c:UInt8):Fn G T_ 327 [.str s,.str [c]] (.int .i64 (mB s c)):=by
 refine ag hm mj (by simp) ?_;simp[hJ];refine W9 (fun h=>?_) (fun h=>?_)
 ·subst h;have:mB [c] c=0:=He (i:=0) rfl (by simp);simp[this]
 ·simp;refine aa (sV s c) ?_;simp
theorem Jv(d:List Str)(p:Str)(k:Nat):(ts d++List.replicate (k+1) [IV.str []]).set d.length [.str p]=ts (d++[p])++List.replicate k [IV.str []]:=by
 have:d.length=(ts d).length:=by simp[ts]
 rw[this,List.set_append_right _ _ (Nat.le_refl _)];simp[ts,List.replicate_succ]
theorem bE(d:List Str):(ts d).length=d.length:=by simp[ts]
theorem Jw(d:List Str)(k:Nat):(ts d++List.replicate (k+1) [IV.str []])[d.length]?=some [.str []]:=by
 rw[List.getElem?_append_right (by rw[bE];omega),bE];simp[List.replicate_succ]
theorem Qu(s:Str)(c:UInt8):Fn G T_ 321 [.str s,.str [c]] (.int .i64 (mB s c)):=by
 refine ag hm zG (by simp) ?_;simp[rR];refine aa (CW s c) ?_;simp
theorem Jx(s:Str)(c:UInt8)(hs:s.length<1000000):Fn G T_ 273 [.str s,.str [c],.int .i64 0,.int .i64 (-1)] (.slice (ts (parts c s))):=by
 refine ag hm uM (by simp) ?_;simp[o5];have hk:s.count c<=s.length:=List.count_le_length;have hmin:min ((s.count c:Int)+1) (s.length+1)=s.count c+1:=by omega
 refine aa (Qt s c) ?_;simp(disch:=omega)[wl,hmin];refine⟨by omega,?_⟩;refine ce hm [] (fun x:List Str×Str=>[(0,.val (.str x.2)),(3,.val (.int .i64 (s.count c))),(10,.val (.int .i64 x.1.length))]) (fun x=>[(31,.arr 0 1 (ts x.1++List.replicate (x.2.count c+1) [.str []]))]) (fun x=>x.2.length<=s.length/\x.1.length+x.2.count c=s.count c/\x.1++parts c x.2=parts c s) (fun x=>x.2.length) ([],s) ⟨by simp,by simp,by simp⟩ ?_ ?_
 ·simp[ts];exact bQ
 rintro⟨d,t⟩ ⟨hl,hn,hp⟩;simp at hl hn hp;simp;by_cases h:d.length<s.count c
 ·have hpos:0<t.count c:=by omega
  have hmem:c∈t:=List.count_pos_iff.1 hpos;rcases o4 t c with⟨_,h0⟩|⟨m,h1,h2,h3⟩
  ·exact absurd hmem h0
  ·have hI:=Qu t c;rw[h1]at hI;obtain⟨hm1,_⟩:=List.getElem?_eq_some_iff.1 h2;have hpa:=Ju h2 h3;have hsr:=Jv d (t.take m) (t.count c);simp(disch:=omega)[wl,h];refine aa hI ?_;have hgr:=Jw d (t.count c)
   have hcr:(t.drop (m+1)).count c+1=t.count c:=by
    have:=nN c t;rw[hpa,List.length_cons,nN]at this;omega
   simp(disch:=omega)[wl,bE,hgr,hsr];refine⟨by omega,by omega,?_⟩;refine au (d++[t.take m],t.drop (m+1)) ⟨by simp;omega,by simp;omega,?_⟩ (by simp;omega) ?_
   ·rw[<-hp,hpa];simp
   simp[hcr];exact bQ
 ·have h0:t.count c=0:=by omega
  have hnm:c∉t:=List.count_eq_zero.1 h0;have hpa:=wV hnm;have hsr:=Jv d t 0;have hgr:=Jw d 0;simp at hsr hgr;simp(disch:=omega)[wl,h,h0,bE,hgr,hsr];refine⟨by omega,?_⟩;rw[<-hp,hpa,List.take_of_length_le (by rw[bE];simp)]
theorem sY(s:Str)(c:UInt8)(hs:s.length<1000000):Fn G T_ 209 [.str s,.str [c]] (.slice (ts (parts c s))):=by
 refine ag hm zE (by simp) ?_;simp[rN];refine aa (Jx s c hs) ?_;simp
theorem Li{c:UInt8}{r p:Str}{ps:List Str}(h:parts c r=p::ps):(∀k,k<p.length->r[k]?=p[k]?/\r[k]?≠some c)/\(r[p.length]?=none\/r[p.length]?=some c):=by
 induction r generalizing p ps with
 |nil=>simp[parts]at h;obtain⟨rfl,rfl⟩:=h;simp
 |cons x r ih=>
  simp only[parts]at h;by_cases hx:x=c
  ·rw[if_pos hx]at h;simp at h;obtain⟨rfl,rfl⟩:=h;simp[hx]
  ·rw[if_neg hx]at h;split at h
   ·next hp=>exact absurd hp (qr c r)
   ·next q qs hq=>
    simp at h;obtain⟨rfl,rfl⟩:=h;obtain⟨h1,h2⟩:=ih hq;refine⟨fun k hk=>?_,by simpa using h2⟩;cases k with
    |zero=>simp[hx]
    |succ k=>simpa using h1 k (by simpa using hk)
theorem Ga{c:UInt8} : ∀ {z:Nat} {r p:Str} {ps:List Str},parts c r=p::ps->z<=p.length->parts c (r.drop z)=p.drop z::ps
 |0,r,p,ps,h,_=>h
 |z+1,[],p,ps,h,hz=>by simp[parts]at h;obtain⟨rfl,rfl⟩:=h;simp at hz
 |z+1,x::r,p,ps,h,hz=>by
  simp only[parts]at h;by_cases hx:x=c
  ·rw[if_pos hx]at h;simp at h;obtain⟨rfl,rfl⟩:=h;simp at hz
  ·rw[if_neg hx]at h;split at h
   ·next hp=>exact absurd hp (qr c r)
   ·next q qs hq=>
    simp at h;obtain⟨rfl,rfl⟩:=h;show parts c (r.drop z)=q.drop z::qs;exact Ga hq (by simpa using hz)
theorem Hp{r p:Str}{ps:List Str}(h:parts 10 r=p::ps){k lo hi:Nat}(hlo:128<=lo)(hk:k<=p.length):tl p k lo hi=tl (r.map sp) k lo hi:=by
 obtain⟨h1,h2⟩:=Li h;unfold tl;rw[List.getElem?_map];by_cases hkl:k<p.length
 ·obtain⟨h3,h4⟩:=h1 k hkl;rw[h3,List.getElem?_eq_getElem hkl];rw[h3,List.getElem?_eq_getElem hkl]at h4;have:p[k].toNat≠10:=fun e=>h4 (by rw[<-UInt8.toNat_inj.1 (show p[k].toNat=(10:UInt8).toNat from e)])
  simp[sp,this]
 ·obtain rfl:k=p.length:=by omega
  rw[List.getElem?_eq_none (Nat.le_refl _)];rcases h2 with h2|h2
  ·rw[h2];rfl
  ·rw[h2];simp[sp];omega
theorem NX{r p:Str}{ps:List Str}(c:UInt8)(h:parts 10 r=p::ps):eo (c::p)=eo (c::r.map sp):=by
 have hlo:∀n,128<=Qi n:=by
  intro n;unfold Qi;split
  ·omega
  ·split<;>omega
 have t0:=fun lo hi (hl:128<=lo)=>Hp h (k:=0) (lo:=lo) (hi:=hi) hl (by omega)
 have e1:∀lo hi,128<=lo->(tl p 0 lo hi&&tl p 1 128 191)=(tl (r.map sp) 0 lo hi&&tl (r.map sp) 1 128 191):=by
  intro lo hi hl;by_cases hp:1<=p.length
  ·rw[t0 lo hi hl,Hp h (by omega) hp]
  ·have:tl p 0 lo hi=false:=by
    cases ht:tl p 0 lo hi with
    |false=>rfl
    |true=>have:=CI ht;omega
   rw[<-t0 lo hi hl,this];rfl
 have e2:∀lo hi,128<=lo->(tl p 0 lo hi&&tl p 1 128 191&&tl p 2 128 191)=(tl (r.map sp) 0 lo hi&&tl (r.map sp) 1 128 191&&tl (r.map sp) 2 128 191):=by
  intro lo hi hl;by_cases hp:2<=p.length
  ·rw[e1 lo hi hl,Hp h (by omega) hp]
  ·have:tl p 1 128 191=false:=by
    cases ht:tl p 1 128 191 with
    |false=>rfl
    |true=>have:=CI ht;omega
   rw[<-e1 lo hi hl,this];simp
 simp only[eo];rw[t0 128 191 (by omega)];have e1':=e1 (Qi c.toNat) (Jl c.toNat) (hlo _);have e2':=e2 (Qi c.toNat) (Jl c.toNat) (hlo _);simp only[Bool.and_assoc]at e1' e2' |-;rw[e1',e2']
theorem zH:∀(n:Nat) (v:Str),v.length<=n->(zz (v.map sp)=none↔∀p∈parts 10 v,zz p=none)
 |_,[],_=>by simp[parts]
 |n+1,c::r,hn=>by
  rw[List.map_cons,xU (by simp)];by_cases hc:c=10
  ·subst hc;have h1:mg (sp 10::r.map sp)=false:=by simp[mg,eo,sp]
   have h2:eo (sp 10::r.map sp)=1:=by simp[eo,sp]
   rw[h1,h2];simp only[Bool.false_eq_true,if_false,Option.map_eq_none_iff,List.drop_succ_cons,List.drop_zero];rw[zH n r (by simpa using hn)];simp[parts]
  ·have hcn:c.toNat≠10:=fun e=>hc (UInt8.toNat_inj.1 e)
   have hsp:sp c=c:=by simp[sp,hcn]
   obtain⟨p,ps,hp⟩:=List.exists_cons_of_ne_nil (qr 10 r);have hv:parts 10 (c::r)=(c::p)::ps:=by simp[parts,hc,hp]
   have hz:=NX c hp;rw[hv,hsp,List.forall_mem_cons,xU (l:=c::p) (by simp)];have ha:mg (c::p)=mg (c::r.map sp):=by simp only[mg,hz]
   rw[ha,<-hz];cases ho:mg (c::r.map sp)with
   |true=>simp
   |false=>
    have h1:1<=eo (c::p):=wS (by rw[ha];exact ho) (by simp);have h2:=Jm (c::p);obtain⟨z,hzz⟩:∃z,eo (c::p)=z+1:=⟨eo (c::p)-1,by omega⟩;rw[hzz]at h2 |-;simp only[Bool.false_eq_true,if_false,Option.map_eq_none_iff,List.drop_succ_cons];have hd:=Ga hp (z:=z) (by simpa using h2);rw[<-List.map_drop,zH n (r.drop z) (by simp at hn |-;omega),hd,List.forall_mem_cons]
theorem Lj(v:Str):G9 v=true↔∀p∈parts 10 v,zz p=none:=by
 rw[<-zH v.length v (Nat.le_refl _)];simp[G9]
theorem kc{c:UInt8} : ∀ {v p:Str},p∈parts c v->p.length<=v.length
 |[],p,h=>by simp[parts]at h;simp[h]
 |x::r,p,h=>by
  simp only[parts]at h;split at h
  ·rcases List.mem_cons.1 h with rfl|h
   ·simp
   ·have:=kc h;simp;omega
  ·split at h
   ·next hp=>exact absurd hp (qr c r)
   ·next q qs hq=>
    have hr:∀p,p∈q::qs->p.length<=r.length:=fun p hm=>kc (by rw[hq];exact hm)
    rcases List.mem_cons.1 h with rfl|h
    ·have:=hr q (by simp);simp;omega
    ·have:=hr p (by simp[h]);simp;omega
structure Pm where
 n:Str
 v:List Str
 deriving DecidableEq
def Pm.iv(p:Pm):IV:=.agg [.str p.n,.slice (ts p.v)]
def ps(l:List Pm):List (List IV):=l.map fun p=>[.str p.n,.slice (ts p.v)]
theorem cG(l:List Pm):(ps l).length=l.length:=by simp[ps]
theorem rg{d:List Str}{i:Nat}{x:Str}(h:i<d.length)(hx:d[i]=x):(ts d)[i]?=some [.str x]:=by simp[ts,h,hx]
theorem zI{d:List Pm}{i:Nat}{x:Pm}(h:i<d.length)(hx:d[i]=x):(ps d)[i]?=some [.str x.n,.slice (ts x.v)]:=by simp[ps,h,hx]
def wW:List Str->Int
 |[]=>0
 |x::r=>if 60<x.length then 5 else if G9 x then wW r else 10
def rh(p:Pm):Int:=if mS p.n then (if p.v.length=0\/6<p.v.length then 20 else wW p.v)else 4
theorem Qv(p:Pm)(hn:p.n.length<1000000):Fn G T_ 142 [p.iv] (.int .i64 (rh p)):=by
 refine ag hm CT (by simp) ?_;simp[vu,Pm.iv];refine aa (Mj p.n hn) ?_;obtain⟨n,v⟩:=p;simp only at *;cases h1:mS n with
 |false=>simp[rh,h1]
 |true=>
  have hP:rh ⟨n,v⟩=if v.length=0\/6<v.length then 20 else wW v:=by simp[rh,h1]
  simp[bE];by_cases h2:v.length=0
  ·rw[if_pos (by omega)]at hP;obtain rfl:v=[]:=List.length_eq_zero_iff.1 h2;simp(disch:=omega)[wl,bE,hP]
  ·have h2':¬v=[]:=fun e=>h2 (by rw[e];rfl)
   by_cases h3:6<v.length
   ·rw[if_pos (by omega)]at hP;simp(disch:=omega)[wl,bE,hP,h2']
   ·rw[if_neg (by omega)]at hP;rw[hP];simp(disch:=omega)[wl,bE,h2'];refine ce hm [] (fun i:Nat=>[(24,.val (.int .i64 i))]) (fun i=>[]) (fun i=>i<=v.length/\wW (v.drop i)=wW v) (fun i=>v.length-i) 0 ⟨by omega,by simp⟩ ?_ ?_
    ·simp;exact bQ
    rintro i ⟨hi,hc⟩;simp[bE];by_cases h:i<v.length
    ·obtain⟨x,hx⟩:∃x,v[i]=x:=⟨_,rfl⟩;have hg:=rg h hx;have hd:v.drop i=x::v.drop (i+1):=by rw[<-hx];exact List.drop_eq_getElem_cons h
     rw[hd,wW]at hc;by_cases h4:60<x.length
     ·rw[if_pos h4]at hc;simp(disch:=omega)[wl,bE,hg,<-hc]
     ·rw[if_neg h4]at hc;have hS:=sY x 10 (by omega);have hfp:=Lj x;have hps:∀p∈parts 10 x,p.length<1000000:=fun p hp=>by have:=kc hp;omega
      have hpl:(parts 10 x).length<=100:=by
       rw[nN];have:x.count 10<=x.length:=List.count_le_length;omega
      obtain⟨P,hP'⟩:∃P,parts 10 x=P:=⟨_,rfl⟩;rw[hP']at hS hfp hps hpl;simp(disch:=omega)[wl,bE,hg];refine aa hS ?_;simp(disch:=omega)[wl,bE];refine ce hm [] (fun j:Nat=>[(34,.val (.int .i64 j))]) (fun i=>[]) (fun j=>j<=P.length/\∀p∈P.take j,zz p=none) (fun j=>P.length-j) 0 ⟨by omega,by simp⟩ ?_ ?_
      ·simp;exact bQ
      rintro j ⟨hj,ho⟩;simp[bE];by_cases h6:j<P.length
      ·obtain⟨y,hy⟩:∃y,P[j]=y:=⟨_,rfl⟩;have hg2:=rg h6 hy;have hym:y∈P:=hy▸List.getElem_mem h6;have hO:=Ql y (hps y hym);simp(disch:=omega)[wl,bE,hg2];refine aa hO ?_;cases h7:zz y with
       |some k=>
        have h5:G9 x=false:=by
         cases hf:G9 x with
         |false=>rfl
         |true=>have:=hfp.1 hf y hym;rw[h7]at this;cases this
        rw[h5]at hc;simp at hc;simp(disch:=omega)[wl,Jn,<-hc]
       |none=>
        simp(disch:=omega)[wl,Jn];refine au (j+1) ⟨by omega,?_⟩ (by omega) ?_
        ·intro p hp;rw[List.take_succ_eq_append_getElem h6,List.mem_append]at hp;rcases hp with hp|hp
         ·exact ho p hp
         ·rw[List.mem_singleton.1 hp,hy];exact h7
        ·simp;exact bQ
      ·obtain rfl:j=P.length:=by omega
       have h5:G9 x=true:=hfp.2 (by simpa using ho);rw[h5]at hc;simp at hc;simp(disch:=omega)[wl];refine au (i+1) ⟨by omega,hc⟩ (by omega) ?_;simp;exact bQ
    ·obtain rfl:i=v.length:=by omega
     simp[wW]at hc;simp[<-hc]
theorem fn_Clone(v:List Str)(hv:v.length<1000000):Fn G T_ 130 [.slice (ts v)] (.slice (ts v)):=by
 refine ag hm re (by simp) ?_;simp[kZ];cases v with
 |nil=>
  simp[ts]
 |cons x r=>
  have hl:=bE (x::r);simp only[List.length_cons]at hl hv;have:ts (x::r)=[.str x]::ts r:=rfl;rw[this]at hl |-;simp at hl;simp(disch:=omega)[wl,hl];exact⟨by omega,fun a ha=>by simp[ts]at ha;obtain⟨y,_,rfl⟩:=ha;rfl⟩
def Qw(l:List Pm)(n:Str):Bool:=l.any fun p=>decide (p.n=n)
def gK(l:List Pm)(n:Str):Option Pm:=l.find? fun p=>decide (p.n=n)
def o7:Option Pm->IV
 |some p=>.tuple [p.iv,.bool true]
 |none=>.tuple [(⟨[],[]⟩:Pm).iv,.bool false]
theorem Qx{l:List Pm}{i:Nat}{p:Pm}{n:Str}(h:i<l.length)(hp:l[i]=p):gK (l.drop i) n=if p.n=n then some p else gK (l.drop (i+1)) n:=by
 rw[List.drop_eq_getElem_cons h,hp];by_cases e:p.n=n<;>simp[gK,e]
theorem By(l:List Pm)(n:Str)(hl:l.length<1000000)(hv:∀p∈l,p.v.length<1000000):Fn G T_ 143 [.slice (ps l),.str n] (o7 (gK l n)):=by
 refine ag hm EL (by simp) ?_;simp[y4,cG];refine ce hm [] (fun i:Nat=>[(10,.val (.int .i64 i))]) (fun i=>[]) (fun i=>i<=l.length/\gK (l.drop i) n=gK l n) (fun i=>l.length-i) 0 ⟨by omega,by simp⟩ ?_ ?_
 ·simp;exact bQ
 rintro i ⟨hi,hc⟩;simp[cG];by_cases h:i<l.length
 ·obtain⟨p,hp⟩:∃p,l[i]=p:=⟨_,rfl⟩;have hg:=zI h hp;rw[Qx h hp]at hc;have hC:=fn_Clone p.v (hv p (hp▸List.getElem_mem h));by_cases h1:p.n=n
  ·simp[h1]at hc;simp(disch:=omega)[wl,cG,hg,h1];refine aa hC ?_;simp(disch:=omega)[wl];refine⟨rfl,?_⟩;rw[<-hc];simp[o7,Pm.iv,h1]
  ·simp[h1]at hc;simp(disch:=omega)[wl,cG,hg,h1];refine au (i+1) ⟨by omega,hc⟩ (by omega) ?_;simp;exact bQ
 ·obtain rfl:i=l.length:=by omega
  have hr:gK l n=none:=by rw[<-hc];simp[gK]
  simp(disch:=omega)[wl,hr,o7,Pm.iv];rfl
def ic:List Pm->Int
 |[]=>0
 |p::r=>if rh p=0 then ic r else rh p
def pF:List Pm->List Pm->Bool
 |_,[]=>false
 |a,p::r=>Qw a p.n||pF (a++[p]) r
def jv(l:List Pm):Int:=if 6<l.length then 20 else if ic l=0 then (if pF [] l then 19 else 0)else ic l
theorem Jy{l:List Pm}{i:Nat}{p:Pm}(h:i<l.length)(hp:l[i]=p):ic (l.drop i)=if rh p=0 then ic (l.drop (i+1))else rh p:=by
 rw[List.drop_eq_getElem_cons h,hp];rfl
theorem Qy{l:List Pm}{i:Nat}{p:Pm}(h:i<l.length)(hp:l[i]=p):pF (l.take i) (l.drop i)=(Qw (l.take i) p.n||pF (l.take (i+1)) (l.drop (i+1))):=by
 rw[List.drop_eq_getElem_cons h,hp,List.take_succ_eq_append_getElem h,hp];rfl
theorem Qz(l:List Pm)(n:Str):Qw l n=(gK l n).isSome:=by
 induction l with
 |nil=>rfl
 |cons p r ih=>
  by_cases e:p.n=n
  ·simp[Qw,gK,e]
  ·simp only[Qw,gK,List.any_cons,List.find?_cons]at ih |-;simp[e,ih]
theorem T5(l:List Pm):∀row,row∈ps l->row.length=2:=fun a ha=>by simp[ps]at ha;obtain⟨y,_,rfl⟩:=ha;rfl
theorem T6(l:List Pm)(i:Nat):(ps l).take i=ps (l.take i):=by simp[ps,List.map_take]
structure Fit(l:List Pm):Prop where
 n:∀p∈l,p.n.length<100000
 v:∀p∈l,p.v.length<100000
 t:∀p∈l,∀s∈p.v,s.length<10000
theorem Jz(l:List Pm)(hl:l.length<100000)(hf:Fit l):Fn G T_ 92 [.slice (ps l)] (.int .i64 (jv l)):=by
 refine ag hm y3 (by simp) ?_;simp[qo,cG];by_cases h0:6<l.length
 ·simp(disch:=omega)[wl,jv,h0,cG]
 ·have hA:jv l=if ic l=0 then (if pF [] l then 19 else 0)else ic l:=by rw[jv,if_neg h0]
  rw[hA];simp(disch:=omega)[wl,cG];refine ce hm [] (fun i:Nat=>[(15,.val (.int .i64 i))]) (fun i=>[]) (fun i=>i<=l.length/\ic (l.drop i)=ic l) (fun i=>l.length-i) 0 ⟨by omega,by simp⟩ ?_ ?_
  ·simp;exact bQ
  rintro i ⟨hi,hc⟩;simp[cG];by_cases h:i<l.length
  ·obtain⟨p,hp⟩:∃p,l[i]=p:=⟨_,rfl⟩;have hm':p∈l:=hp▸List.getElem_mem h;have hg:=zI h hp;have hC:=Qv p (by have:=hf.n p hm';omega);rw[Jy h hp]at hc;simp(disch:=omega)[wl,cG,hg];refine aa hC ?_;by_cases h1:rh p=0
   ·rw[if_pos h1]at hc;simp(disch:=omega)[wl,h1];refine au (i+1) ⟨by omega,hc⟩ (by omega) ?_;simp;exact bQ
   ·rw[if_neg h1]at hc;have:¬ic l=0:=by rw[<-hc];exact h1
    rw[if_neg this,<-hc];simp(disch:=omega)[wl,h1]
  ·obtain rfl:i=l.length:=by omega
   have hb:ic l=0:=by rw[<-hc];simp[ic]
   rw[if_pos hb];simp(disch:=omega)[wl,cG];refine ce hm [] (fun i:Nat=>[(27,.val (.int .i64 i))]) (fun i=>[]) (fun i=>i<=l.length/\pF (l.take i) (l.drop i)=pF [] l) (fun i=>l.length-i) 0 ⟨by omega,by simp⟩ ?_ ?_
   ·simp;exact bQ
   rintro j ⟨hj,ht⟩;simp[cG];by_cases h:j<l.length
   ·obtain⟨p,hp⟩:∃p,l[j]=p:=⟨_,rfl⟩;have hg:=zI h hp;have hH:=By (l.take j) p.n (by simp;omega) (fun q hq=>by have:=hf.v q (List.mem_of_mem_take hq);omega);have hhf:=Qz (l.take j) p.n;rw[Qy h hp]at ht;simp(disch:=omega)[wl,cG,hg,T6];refine⟨⟨by omega,T5 l⟩,?_⟩;refine aa hH ?_;cases hh:gK (l.take j) p.n with
    |some q=>
     rw[hh]at hhf;rw[hhf]at ht;have hb:pF [] l=true:=by rw[<-ht];rfl
     simp[hb,o7,Pm.iv];rfl
    |none=>
     rw[hh]at hhf;rw[hhf]at ht;simp(disch:=omega)[wl,o7,Pm.iv];refine⟨rfl,?_⟩;refine au (j+1) ⟨by omega,by simpa using ht⟩ (by omega) ?_;simp;exact bQ
   ·obtain rfl:j=l.length:=by omega
    have hb:pF [] l=false:=by rw[<-ht];simp[pF]
    simp(disch:=omega)[wl,hb]
end Go.Vs.YtcjeehebikeghaaGreatDoor
