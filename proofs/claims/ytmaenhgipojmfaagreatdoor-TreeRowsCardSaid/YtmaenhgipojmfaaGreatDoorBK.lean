/- Plain mathematics of parameters: names; what values mean and how they are written. No conditions. -/
import Derived.Test.YtmaenhgipojmfaaGreatDoorBH
import Derived.Test.YtmaenhgipojmfaaGreatDoorBJ
set_option linter.unusedVariables false
set_option linter.unusedSimpArgs false
namespace Go.Vs.U8
end Go.Vs.U8
namespace Go.Vs.Pa
end Go.Vs.Pa
set_option linter.unusedVariables false
set_option linter.unusedSimpArgs false
namespace Go.Vs.Pa
open Go.Vs.U8
def vX (c:UInt8):Bool:=decide ((65≤c.toNat∧c.toNat≤90)∨(48≤c.toNat∧c.toNat≤57)∨c.toNat=45)
def vd (c:UInt8):Bool:=decide ((65≤c.toNat∧c.toNat≤90)∨(97≤c.toNat∧c.toNat≤122)∨(48≤c.toNat∧c.toNat≤57)∨c.toNat=45)
def named:Str→Nat
 | []=>0
 | c::r=>if vd c then named r+1 else 0
theorem iY (s:Str):named s≤s.length:=by
 induction s with
 | nil=>simp[named]
 | cons c r ih=>simp only[named];split <;> simp <;> omega
theorem DX {s:Str} {i:Nat} (h:(s.take i).all vd=true) (hi:i≤s.length) (hn:∀ c,s[i]?=some c→vd c=false):named s=i:=by
 induction s generalizing i with
 | nil=>simp at hi;subst hi;rfl
 | cons c r ih=>
  cases i with
  | zero=>
   have:=hn c rfl
   simp[named,this]
  | succ i=>
   simp only[List.take_succ_cons,List.all_cons,Bool.and_eq_true] at h
   simp only[named,h.1,if_true]
   rw[ih h.2 (by simpa using hi) (by intro c hc;exact hn c (by simpa using hc))]
theorem sf (s:Str):(s.take (named s)).all vd=true:=by
 induction s with
 | nil=>simp
 | cons c r ih=>
  simp only[named]
  split
  ·next h=>simp[h] at ih ⊢;exact ih
  ·simp
theorem B1 (s:Str):named s=s.length↔s.all vd=true:=by
 constructor
 ·intro h;have:=sf s;rwa[h,List.take_length] at this
 ·intro h;exact DX (by rw[List.take_length];exact h) (Nat.le_refl _) (by intro c hc;simp at hc)
def ax (s:Str):Bool:=decide (1≤s.length)&&decide (s.length≤24)&&s.all vX
def upB (c:UInt8):UInt8:=if 97≤c∧c≤122 then c-32 else c
def upper (s:Str):Str:=s.map upB
theorem upB_yes {c:UInt8} (h1:97≤c.toNat) (h2:c.toNat≤122):(upB c).toNat=c.toNat-32:=by
 have a:(97:UInt8)≤c∧c≤122:=⟨by rw[UInt8.le_iff_toNat_le];simpa using h1,by rw[UInt8.le_iff_toNat_le];simpa using h2⟩
 rw[upB,if_pos a,UInt8.toNat_sub_of_le]
 ·rfl
 ·rw[UInt8.le_iff_toNat_le];simp;omega
theorem upB_no {c:UInt8} (h:¬(97≤c.toNat∧c.toNat≤122)):upB c=c:=by
 rw[upB,if_neg]
 rintro ⟨a,b⟩
 rw[UInt8.le_iff_toNat_le] at a b
 exact h ⟨by simpa using a,by simpa using b⟩
theorem Nf (c:UInt8):upB c=c↔¬(97≤c.toNat∧c.toNat≤122):=by
 constructor
 ·intro h hc
  have:=upB_yes hc.1 hc.2
  rw[h] at this;omega
 ·exact upB_no
theorem LN (c:UInt8):vX c=(vd c&&decide (upB c=c)):=by
 rw[Bool.eq_iff_iff]
 simp only[vX,vd,Bool.and_eq_true,decide_eq_true_eq,Nf]
 omega
theorem JP (s:Str):upper s=s↔∀ c∈s,upB c=c:=by
 induction s with
 | nil=>simp[upper]
 | cons c r ih=>simp only[upper,List.map_cons,List.cons.injEq,List.mem_cons,forall_eq_or_imp] at ih ⊢;rw[ih]
theorem Gu (s:Str):s.all vX=true↔s.all vd=true∧upper s=s:=by
 rw[JP]
 simp only[List.all_eq_true,LN,Bool.and_eq_true,decide_eq_true_eq]
 exact ⟨fun h=>⟨fun x hx=>(h x hx).1,fun x hx=>(h x hx).2⟩,fun h x hx=>⟨h.1 x hx,h.2 x hx⟩⟩
theorem Cm (c:UInt8):vX (upB c)=vd c:=by
 rw[Bool.eq_iff_iff]
 simp only[vX,vd,decide_eq_true_eq]
 by_cases h:97≤c.toNat∧c.toNat≤122
 ·rw[upB_yes h.1 h.2];omega
 ·rw[upB_no h];omega

def aK:Str→Str
 | []=>[]
 | [c]=>[c]
 | c::d::r=>if c.toNat=94 then (if d.toNat=94 then 94::aK r else if d.toNat=110 then 10::aK r else if d.toNat=39 then 34::aK r else c::aK (d::r)) else c::aK (d::r)
def eY:Str→Str
 | []=>[]
 | c::r=>(if c.toNat=94 then [94,94] else if c.toNat=10 then [94,110] else if c.toNat=34 then [94,39] else [c])++eY r
def ix (c:UInt8):Bool:=decide (c.toNat=44∨c.toNat=58∨c.toNat=59)
def write (s:Str):Str:=if s.any ix then 34::(eY s++[34]) else eY s
def sp (c:UInt8):UInt8:=if c.toNat=10 then 32 else c
def eD (s:Str):Bool:=(fp (s.map sp)).isNone
end Go.Vs.Pa
namespace Go.Vs.YtmaenhgipojmfaaGreatDoor
set_option linter.unusedSimpArgs false
set_option linter.unusedVariables false
open Go.Proofs Go.Vs.U8 Go.Vs.Pa
set_option maxRecDepth 100000
set_option maxHeartbeats 4000000
theorem HU {c:UInt8} (h:vd c=true):(65≤c.toNat∧c.toNat≤90)∨(97≤c.toNat∧c.toNat≤122)∨(48≤c.toNat∧c.toNat≤57)∨c.toNat=45:=by simpa[vd] using h
theorem LO {c:UInt8} (h:vd c=false):c.toNat < 45∨(45 < c.toNat∧c.toNat < 48)∨(57 < c.toNat∧c.toNat < 65)∨(90 < c.toNat∧c.toNat < 97)∨122 < c.toNat:=by
 simp[vd] at h;omega
theorem DY (s:Str) (hs:s.length < 1000000):Fn G Tryz.prog iI [.str s] (.int .i64 (named s)):=by
 refine ac hm yi (by simp) ?_
 simp[qL,qM]
 refine aA hm [] (fun i:Nat=>[(3,.val (.int .i64 i))]) (fun i=>[]) (fun i=>i≤s.length∧(s.take i).all vd=true) (fun i=>s.length-i) 0 ⟨by omega,by simp⟩ ?_ ?_
 ·simp
  exact aQ
 rintro i ⟨hi,ha⟩
 simp
 by_cases h:i < s.length
 ·obtain ⟨c,hc⟩:∃ c,s[i]=c:=⟨_,rfl⟩
  have hc':s[i]?=some c:=by rw[←hc];exact List.getElem?_eq_getElem h
  have hlt:=l7 c
  cases hn:vd c with
  | true=>
   have ht:(s.take (i+1)).all vd=true:=by
    rw[List.take_succ_eq_append_getElem h,List.all_append,ha,hc];simp[hn]
   rcases HU hn with h1 | h1 | h1 | h1
   all_goals
    simp (disch:=omega) [wl,hc]
    refine ae (i+1) ⟨by omega,ht⟩ (by omega) ?_
    simp
    exact aQ
  | false=>
   have hr:named s=i:=DX ha hi (by intro d hd;rw[hc'] at hd;cases hd;exact hn)
   rcases LO hn with h1 | h1 | h1 | h1 | h1
   all_goals
    simp (disch:=omega) [wl,hc,hr]
 ·obtain rfl:i=s.length:=by omega
  have hr:named s=s.length:=(B1 s).2 (by simpa using ha)
  simp (disch:=omega) [wl,hr]
theorem JQ:Pa.upper=upper:=rfl
theorem tI (s:Str) (hs:s.length < 1000000):Fn G Tryz.prog dV [.str s] (.bool (ax s)):=by
 refine ac hm zR (by simp) ?_
 simp[tg,th]
 have hN:=DY s hs
 have hU:=m5 s hs
 have ha:=Gu s
 rw[JQ,←B1] at ha
 by_cases h0:s=[]
 ·subst h0
  simp (disch:=omega) [wl,ax]
 have h0':0 < s.length:=List.length_pos_iff.2 h0
 by_cases h1:s.length≤24
 ·by_cases h2:named s=s.length
  ·by_cases h3:upper s=s
   ·have hr:ax s=true:=by simp[ax,h1,ha.2 ⟨h2,h3⟩];omega
    simp (disch:=omega) [wl,h0]
    refine a7 hN ?_
    simp (disch:=omega) [wl,h2]
    refine a7 hU ?_
    simp (disch:=omega) [wl,h3,hr]
   ·have hr:ax s=false:=by
     cases hh:s.all vX with
     | true=>exact absurd (ha.1 hh).2 h3
     | false=>simp[ax,hh]
    simp (disch:=omega) [wl,h0]
    refine a7 hN ?_
    simp (disch:=omega) [wl,h2]
    refine a7 hU ?_
    simp (disch:=omega) [wl,h3,hr]
  ·have hr:ax s=false:=by
    cases hh:s.all vX with
    | true=>exact absurd (ha.1 hh).1 h2
    | false=>simp[ax,hh]
   have h2':¬((named s:Int)=s.length):=by omega
   simp (disch:=omega) [wl,h0]
   refine a7 hN ?_
   simp (disch:=omega) [wl,h2,hr]
 ·have hr:ax s=false:=by simp[ax,h1]
  simp (disch:=omega) [wl,h0,hr]
theorem Gv (c:UInt8):Fn G Tryz.prog jF [.int .u8 c.toNat] (.bool (vX c)):=by
 refine ac hm zS (by simp) ?_
 simp[ti,tj]
 have hlt:=l7 c
 cases hn:vX c with
 | true=>
  have:(65≤c.toNat∧c.toNat≤90)∨(48≤c.toNat∧c.toNat≤57)∨c.toNat=45:=by simpa[vX] using hn
  rcases this with h1 | h1 | h1 <;> simp (disch:=omega) [wl] <;> omega
 | false=>
  have:c.toNat < 45∨(45 < c.toNat∧c.toNat < 48)∨(57 < c.toNat∧c.toNat < 65)∨90 < c.toNat:=by simp[vX] at hn;omega
  rcases this with h1 | h1 | h1 | h1 <;> simp (disch:=omega) [wl] <;> omega
theorem p7 (s:Str) (hs:s.length < 1000000):Fn G Tryz.prog dU [.str s] (.bool (ax s)):=by
 refine ac hm zQ (by simp) ?_
 simp[tc,tf]
 refine aA hm [] (fun i:Nat=>[(3,.val (.int .i64 i))]) (fun i=>[]) (fun i=>i≤s.length∧(s.take i).all vX=true) (fun i=>s.length-i) 0 ⟨by omega,by simp⟩ ?_ ?_
 ·simp
  exact aQ
 rintro i ⟨hi,ha⟩
 simp
 by_cases h:i < s.length
 ·obtain ⟨c,hc⟩:∃ c,s[i]=c:=⟨_,rfl⟩
  have hS:=Gv c
  cases hn:vX c with
  | true=>
   have ht:(s.take (i+1)).all vX=true:=by
    rw[List.take_succ_eq_append_getElem h,List.all_append,ha,hc];simp[hn]
   simp (disch:=omega) [wl,hc]
   refine a7 hS ?_
   simp (disch:=omega) [wl,hn]
   refine ae (i+1) ⟨by omega,ht⟩ (by omega) ?_
   simp
   exact aQ
  | false=>
   have hr:ax s=false:=by
    have:s.all vX=false:=by rw[List.all_eq_false];exact ⟨c,hc▸List.getElem_mem h,by simp[hn]⟩
    simp[ax,this]
   simp (disch:=omega) [wl,hc]
   refine a7 hS ?_
   simp (disch:=omega) [wl,hn,hr]
 ·obtain rfl:i=s.length:=by omega
  have ha':s.all vX=true:=by simpa using ha
  by_cases h1:1≤s.length
  ·by_cases h2:s.length≤24
   ·have hr:ax s=true:=by simp[ax,ha',h2,h1]
    simp (disch:=omega) [wl,hr]
    omega
   ·have hr:ax s=false:=by simp[ax,h2]
    simp (disch:=omega) [wl,hr]
    omega
  ·have hr:ax s=false:=by simp[ax,h1]
   simp (disch:=omega) [wl,hr]
end Go.Vs.YtmaenhgipojmfaaGreatDoor
namespace Go.Vs.YtmaenhgipojmfaaGreatDoor
set_option linter.unusedSimpArgs false
set_option linter.unusedVariables false
open Go.Proofs Go.Vs.U8 Go.Vs.Pa
set_option maxRecDepth 100000
set_option maxHeartbeats 4000000
theorem FI (c:UInt8) (s:Str) (h:c.toNat≠94):aK (c::s)=c::aK s:=by
 cases s with
 | nil=>simp[aK]
 | cons d r=>simp[aK,h]
theorem meant_esc (c d:UInt8) (r:Str) (h:c.toNat=94):aK (c::d::r)=if d.toNat=94 then 94::aK r else if d.toNat=110 then 10::aK r else if d.toNat=39 then 34::aK r else c::aK (d::r):=by
 simp[aK,h]
theorem yq {s:Str} {i:Nat} {c:UInt8} (h:i < s.length) (hc:s[i]=c) (a:Str) (ha:a++aK (s.drop i)=aK s) :
  (c.toNat≠94∨¬i+1 < s.length→(a++[c])++aK (s.drop (i+1))=aK s)∧
  ∀ d,c.toNat=94→s[i+1]?=some d→(d.toNat=94→(a++[94])++aK (s.drop (i+2))=aK s)∧(d.toNat=110→(a++[10])++aK (s.drop (i+2))=aK s)∧(d.toNat=39→(a++[34])++aK (s.drop (i+2))=aK s)∧(d.toNat≠94→d.toNat≠110→d.toNat≠39→(a++[c])++aK (s.drop (i+1))=aK s):=by
 have hd:s.drop i=c::s.drop (i+1):=by rw[←hc];exact List.drop_eq_getElem_cons h
 constructor
 ·rintro (h1 | h1)
  ·rw[←ha,hd,FI _ _ h1];simp
  ·have:s.drop (i+1)=[]:=List.drop_eq_nil_of_le (by omega)
   rw[←ha,hd,this];simp[aK]
 ·intro d h1 h2
  obtain ⟨h3,h4⟩:=List.getElem?_eq_some_iff.1 h2
  have hd2:s.drop (i+1)=d::s.drop (i+2):=by rw[←h4];exact List.drop_eq_getElem_cons h3
  rw[hd,hd2,meant_esc _ _ _ h1] at ha
  refine ⟨fun k=>?_,fun k=>?_,fun k=>?_,fun k1 k2 k3=>?_⟩
  ·rw[if_pos k] at ha;rw[←ha];simp
  ·rw[if_neg (by omega),if_pos k] at ha;rw[←ha];simp
  ·rw[if_neg (by omega),if_neg (by omega),if_pos k] at ha;rw[←ha];simp
  ·rw[if_neg k1,if_neg k2,if_neg k3] at ha;rw[←ha,hd2];simp
theorem JR (s:Str) (hs:s.length < 1000000):Fn G Tryz.prog lF [.str s] (.str (aK s)):=by
 refine ac hm yp (by simp) ?_
 simp[qZ,rb]
 refine aA hm [] (fun x:Nat×Str=>[(4,.val (.int .i64 x.1))]) (fun x=>[(3,.box [.selfN 3 151 false,.ownT 1 x.2.length 5]),(1,.arr x.2.length 1 (av x.2))]) (fun x=>x.1≤s.length∧x.2.length≤x.1∧x.2++aK (s.drop x.1)=aK s) (fun x=>s.length-x.1) (0,[]) ⟨by omega,by simp,by simp⟩ ?_ ?_
 ·exact aS.trans (m3 (k:=3) (d:=3) (t:=151) 1 5 (by simp) (by simp) (by simp[ap,a8]) (by simp[a8]) (by simp)) (an rfl rfl (by simp[St.bld,aR,ap,a8,put,ba,SV.erase]) (by simp[St.bld,bM,a8,put,aE,cc,Ob.erase,SV.erase,av]) (by simp[St.bld,bQ]))
 rintro ⟨i,a⟩ ⟨hi,hl,ha⟩
 simp at hi hl ha
 simp
 by_cases h:i < s.length
 ·obtain ⟨c,hc⟩:∃ c,s[i]=c:=⟨_,rfl⟩
  have hlt:=l7 c
  have hst:=yq h hc a ha
  have hw:∀ b:UInt8,_:=fun b=>em a.length a b (by omega)
  clear ha
  have fin:∀ b:UInt8,(a++[b]).length=a.length+1:=by simp
  have hi0:(0:Int)≤(i:Int)+1:=by omega
  have hi2:(i:Int)+1+1=i+2:=by omega
  by_cases h1:c.toNat=94
  ·have hce:c=94:=UInt8.toNat_inj.1 h1
   by_cases h2:i+1 < s.length
   ·obtain ⟨d,hd⟩:∃ d,s[i+1]=d:=⟨_,rfl⟩
    have hd':s[i+1]?=some d:=by rw[←hd];exact List.getElem?_eq_getElem h2
    have hld:=l7 d
    obtain ⟨k1,k2,k3,k4⟩:=hst.2 d h1 hd'
    clear hst
    by_cases d1:d.toNat=94
    ·have hs':=k1 d1
     simp (disch:=omega) [wl,hc,hd,hi0]
     refine callM [(1000,3),(1001,1)] [] (hw c) rfl rfl ⟨rfl,rfl,trivial⟩ ⟨rfl,_,_,rfl,rfl,rfl⟩ rfl ?_
     simp[bb,hi2]
     simp (disch:=omega) [wl,hi2]
     refine ae (i+2,a++[94]) ⟨by simp;omega,by simp;omega,hs'⟩ (by simp;omega) ?_
     simp[hce]
     exact aQ
    ·by_cases d2:d.toNat=110
     ·have hs':=k2 d2
      simp (disch:=omega) [wl,hc,hd,hi0]
      refine callM [(1000,3),(1001,1)] [] (hw 10) rfl rfl ⟨rfl,rfl,trivial⟩ ⟨rfl,_,_,rfl,rfl,rfl⟩ rfl ?_
      simp[bb,hi2]
      simp (disch:=omega) [wl,hi2]
      refine ae (i+2,a++[10]) ⟨by simp;omega,by simp;omega,hs'⟩ (by simp;omega) ?_
      simp
      exact aQ
     ·by_cases d3:d.toNat=39
      ·have hs':=k3 d3
       simp (disch:=omega) [wl,hc,hd,hi0]
       refine callM [(1000,3),(1001,1)] [] (hw 34) rfl rfl ⟨rfl,rfl,trivial⟩ ⟨rfl,_,_,rfl,rfl,rfl⟩ rfl ?_
       simp[bb,hi2]
       simp (disch:=omega) [wl,hi2]
       refine ae (i+2,a++[34]) ⟨by simp;omega,by simp;omega,hs'⟩ (by simp;omega) ?_
       simp
       exact aQ
      ·have hs':=k4 d1 d2 d3
       simp (disch:=omega) [wl,hc,hd,hi0]
       refine callM [(1000,3),(1001,1)] [] (hw c) rfl rfl ⟨rfl,rfl,trivial⟩ ⟨rfl,_,_,rfl,rfl,rfl⟩ rfl ?_
       simp[bb,hi2]
       simp (disch:=omega) [wl,hi2]
       refine ae (i+1,a++[c]) ⟨by simp;omega,by simp;omega,hs'⟩ (by simp;omega) ?_
       simp
       exact aQ
   ·have hs':=hst.1 (.inr h2)
    simp (disch:=omega) [wl,hc,hi0]
    refine callM [(1000,3),(1001,1)] [] (hw c) rfl rfl ⟨rfl,rfl,trivial⟩ ⟨rfl,_,_,rfl,rfl,rfl⟩ rfl ?_
    simp[bb,hi2]
    simp (disch:=omega) [wl,hi2]
    refine ae (i+1,a++[c]) ⟨by simp;omega,by simp;omega,hs'⟩ (by simp;omega) ?_
    simp
    exact aQ
  ·have hs':=hst.1 (.inl h1)
   simp (disch:=omega) [wl,hc,hi0]
   refine callM [(1000,3),(1001,1)] [] (hw c) rfl rfl ⟨rfl,rfl,trivial⟩ ⟨rfl,_,_,rfl,rfl,rfl⟩ rfl ?_
   simp[bb,hi2]
   simp (disch:=omega) [wl,hi2]
   refine ae (i+1,a++[c]) ⟨by simp;omega,by simp;omega,hs'⟩ (by simp;omega) ?_
   simp
   exact aQ
 ·obtain rfl:i=s.length:=by omega
  have hr:a=aK s:=by simpa[aK] using ha
  subst hr
  simp (disch:=omega) [wl]
  refine callM [(1000,3),(1001,1)] [] (iq (aK s).length (aK s) (by omega)) rfl rfl (by simp[oK,bb,Vs.ren,a8,Ob.ren,SV.ren]) ⟨rfl,rfl⟩ rfl ?_
  simp
theorem JS {s:Str} {i:Nat} {c d:UInt8} (h:i+1 < s.length) (hc:s[i]=c) (hd:s[i+1]=d):List.drop i (List.take ((i:Int)+2).toNat s)=[c,d]:=by
 rw[show ((i:Int)+2).toNat=i+2 by omega,List.drop_take,show i+2-i=2 by omega,List.drop_eq_getElem_cons (by omega),List.drop_eq_getElem_cons h,hc,hd];rfl
theorem p8 {s:Str} {i:Nat} {c:UInt8} (h:i < s.length) (hc:s[i]=c):List.drop i (List.take (i+1) s)=[c]:=by
 rw[List.drop_take,show i+1-i=1 by omega,List.drop_eq_getElem_cons (by omega),hc];rfl
theorem pZ (s:Str) (hs:s.length < 1000000):Fn G Tryz.prog nh [.str s] (.str (aK s)):=by
 refine ac hm zX (by simp) ?_
 simp[tC,tD]
 refine aA hm [] (fun x:Nat×Str=>[(3,.val (.str x.2)),(4,.val (.int .i64 x.1))]) (fun x=>[]) (fun x=>x.1≤s.length∧x.2.length≤x.1∧x.2++aK (s.drop x.1)=aK s) (fun x=>s.length-x.1) (0,[]) ⟨by omega,by simp,by simp⟩ ?_ ?_
 ·simp
  exact aQ
 rintro ⟨i,a⟩ ⟨hi,hl,ha⟩
 simp at hi hl ha
 simp
 by_cases h:i < s.length
 ·obtain ⟨c,hc⟩:∃ c,s[i]=c:=⟨_,rfl⟩
  have hst:=yq h hc a ha
  clear ha
  have hla:a.length≤9223372036854775806:=by omega
  have hi0:(0:Int)≤(i:Int)+1:=by omega
  have hi2:(i:Int)+1+1=i+2:=by omega
  have hb1:(i:Int)≤i+1∧(i:Int)+1≤s.length:=by omega
  have ht1:=p8 h hc
  have e94:c=94↔c.toNat=94:=by rw[←UInt8.toNat_inj];rfl
  by_cases h2:i+1 < s.length
  ·obtain ⟨d,hd⟩:∃ d,s[i+1]=d:=⟨_,rfl⟩
   have hd':s[i+1]?=some d:=by rw[←hd];exact List.getElem?_eq_getElem h2
   have hb2:(i:Int)≤i+2∧(i:Int)+2≤s.length:=by omega
   have ht2:=JS h2 hc hd
   have d94:d=94↔d.toNat=94:=by rw[←UInt8.toNat_inj];rfl
   have d110:d=110↔d.toNat=110:=by rw[←UInt8.toNat_inj];rfl
   have d39:d=39↔d.toNat=39:=by rw[←UInt8.toNat_inj];rfl
   clear hc hd
   by_cases h1:c.toNat=94
   ·obtain ⟨k1,k2,k3,k4⟩:=hst.2 d h1 hd'
    clear hst
    by_cases d1:d.toNat=94
    ·have hs':=k1 d1
     simp (disch:=omega) [wl,hla,hi0,hb2,ht2,e94,d94,d110,d39]
     refine ae (i+2,a++[94]) ⟨by simp;omega,by simp;omega,hs'⟩ (by simp;omega) ?_
     simp[hi2]
     exact aQ
    ·by_cases d2:d.toNat=110
     ·have hs':=k2 d2
      simp (disch:=omega) [wl,hla,hi0,hb2,ht2,e94,d94,d110,d39]
      refine ae (i+2,a++[10]) ⟨by simp;omega,by simp;omega,hs'⟩ (by simp;omega) ?_
      simp[hi2]
      exact aQ
     ·by_cases d3:d.toNat=39
      ·have hs':=k3 d3
       simp (disch:=omega) [wl,hla,hi0,hb2,ht2,e94,d94,d110,d39]
       refine ae (i+2,a++[34]) ⟨by simp;omega,by simp;omega,hs'⟩ (by simp;omega) ?_
       simp[hi2]
       exact aQ
      ·have hs':=k4 d1 d2 d3
       simp (disch:=omega) [wl,hla,hi0,hb2,ht2,e94,d94,d110,d39,hb1,ht1]
       refine ae (i+1,a++[c]) ⟨by simp;omega,by simp;omega,hs'⟩ (by simp;omega) ?_
       simp
       exact aQ
   ·have hs':=hst.1 (.inl h1)
    simp (disch:=omega) [wl,hla,hi0,hb2,ht2,e94,hb1,ht1]
    refine ae (i+1,a++[c]) ⟨by simp;omega,by simp;omega,hs'⟩ (by simp;omega) ?_
    simp
    exact aQ
  ·have hs':=hst.1 (.inr h2)
   simp (disch:=omega) [wl,hla,hi0,hb1,ht1]
   refine ae (i+1,a++[c]) ⟨by simp;omega,by simp;omega,hs'⟩ (by simp;omega) ?_
   simp
   exact aQ
 ·obtain rfl:i=s.length:=by omega
  have hr:a=aK s:=by simpa[aK] using ha
  simp (disch:=omega) [wl,hr]
end Go.Vs.YtmaenhgipojmfaaGreatDoor
namespace Go.Vs.YtmaenhgipojmfaaGreatDoor
set_option linter.unusedSimpArgs false
set_option linter.unusedVariables false
open Go.Proofs Go.Vs.U8 Go.Vs.Pa
set_option maxRecDepth 100000
set_option maxHeartbeats 4000000
def tJ (c:UInt8):Str:=if c.toNat=94 then [94,94] else if c.toNat=10 then [94,110] else if c.toNat=34 then [94,39] else [c]
theorem JT (c:UInt8) (s:Str):eY (c::s)=tJ c++eY s:=rfl
theorem FJ (s t:Str):eY (s++t)=eY s++eY t:=by
 induction s with
 | nil=>rfl
 | cons c r ih=>simp[JT,ih]
theorem tK (s:Str):(eY s).length≤2*s.length:=by
 induction s with
 | nil=>simp[eY]
 | cons c r ih=>
  have:(tJ c).length≤2:=by
   simp only[tJ]
   repeat' split
   all_goals simp
  show (tJ c++eY r).length≤2*(c::r).length
  simp only[List.length_append,List.length_cons]
  omega
theorem DZ {s:Str} {i:Nat} {c:UInt8} (h:i < s.length) (hc:s[i]=c):eY (s.take (i+1))=eY (s.take i)++tJ c:=by
 rw[List.take_succ_eq_append_getElem h,FJ,hc];simp[eY,tJ]
theorem yt (c:UInt8):(c.toNat=94∧tJ c=[94,94])∨(c.toNat≠94∧c.toNat=10∧tJ c=[94,110])∨(c.toNat≠94∧c.toNat≠10∧c.toNat=34∧tJ c=[94,39])∨(c.toNat≠94∧c.toNat≠10∧c.toNat≠34∧tJ c=[c]):=by
 by_cases h1:c.toNat=94
 ·simp[tJ,h1]
 ·by_cases h2:c.toNat=10
  ·simp[tJ,h2]
  ·by_cases h3:c.toNat=34
   ·simp[tJ,h3]
   ·simp[tJ,h1,h2,h3]
theorem JU {s:Str} {i:Nat} {c:UInt8} (p:UInt8→Bool) (h:i < s.length) (hc:s[i]=c):(s.take (i+1)).any p=((s.take i).any p||p c):=by
 rw[List.take_succ_eq_append_getElem h,List.any_append,hc];simp
theorem ve (c:UInt8):(c.toNat=44∧ix c=true)∨(c.toNat≠44∧c.toNat=58∧ix c=true)∨(c.toNat≠44∧c.toNat≠58∧c.toNat=59∧ix c=true)∨(c.toNat≠44∧c.toNat≠58∧c.toNat≠59∧ix c=false):=by
 simp[ix];omega
theorem JV (s:Str) (hs:s.length < 100000):Fn G Tryz.prog lE [.str s] (.str (write s)):=by
 refine ac hm yo (by simp) ?_
 simp[qX,qY]
 refine aA hm [] (fun i:Nat=>[(3,.val (.str (eY (s.take i)))),(4,.val (.bool ((s.take i).any ix))),(5,.val (.int .i64 i))]) (fun x=>[]) (fun i=>i≤s.length) (fun i=>s.length-i) 0 (by omega) ?_ ?_
 ·simp[eY]
  exact aQ
 rintro i hi
 simp
 by_cases h:i < s.length
 ·obtain ⟨c,hc⟩:∃ c,s[i]=c:=⟨_,rfl⟩
  have he:=DZ h hc
  have hn:=JU ix h hc
  have hl:=tK (s.take i)
  rw[List.length_take] at hl
  have hla:(eY (s.take i)).length≤9223372036854775806:=by omega
  have hlb:(eY (s.take i)).length≤9223372036854775805:=by omega
  have hb1:(i:Int)≤i+1∧(i:Int)+1≤s.length:=by omega
  have ht1:=p8 h hc
  rcases yt c with h1 | h1 | h1 | h1
  all_goals
   rcases ve c with h2 | h2 | h2 | h2
  all_goals try (exfalso;omega)
  all_goals
   simp (disch:=omega) [wl,hc,hla,hlb,hb1,ht1]
   refine ae (i+1) (by omega) (by omega) ?_
   simp[he,hn,h1,h2]
   exact aQ
 ·obtain rfl:i=s.length:=by omega
  have hl:=tK s
  have hla:(eY s).length≤9223372036854775800:=by omega
  have hw:write s=if s.any ix then 34::(eY s++[34]) else eY s:=rfl
  cases ha:s.any ix with
  | true=>
   rw[ha] at hw
   simp (disch:=omega) [wl,ha,hw]
   omega
  | false=>
   rw[ha] at hw
   simp (disch:=omega) [wl,ha,hw]
end Go.Vs.YtmaenhgipojmfaaGreatDoor
namespace Go.Vs.YtmaenhgipojmfaaGreatDoor
set_option linter.unusedSimpArgs false
set_option linter.unusedVariables false
open Go.Proofs Go.Vs.U8 Go.Vs.Pa
set_option maxRecDepth 100000
set_option maxHeartbeats 4000000
@[simp] theorem O2:eY []=[]:=rfl
theorem HV (v:Nat) (l:Str) (c:UInt8) (hl:l.length < 900000):zx G Tryz.prog gW
  {args:=[.val (.int .u8 c.toNat),.selfN 1000 151 true],objs:=bb v l,res:=.val (.tuple []),objs':=bb (v+2) (l++[94,c]),ro':=[] }:=by
 refine bA hm se (by simp) rfl ?_
 simp[la,lb,bb,uO]
 refine callM [] [] (em v l 94 (by omega)) rfl rfl ⟨rfl,rfl,trivial⟩ ⟨rfl,_,_,rfl,rfl,rfl⟩ rfl ?_
 simp[bb]
 refine callM [] [] (em (v+1) (l++[94]) c (by simp;omega)) rfl rfl ⟨rfl,rfl,trivial⟩ ⟨rfl,_,_,rfl,rfl,rfl⟩ rfl ?_
 simp[pW,bb]
 exact ⟨⟨[],[(1000,.box [.selfN 1000 151 false,.ownT 1001 (v+2) 5]),(1001,.arr (v+2) 1 (av (l++[94,c])))],[],6,G⟩,(by exact aQ),rfl,[],rfl,rfl,rfl⟩
theorem FK (s:Str) (hs:s.length < 100000) (hC:Fn G Tryz.prog cW [.str s,.str [44,58,59]] (.bool (s.any ix))):Fn G Tryz.prog ga [.str s] (.str (write s)):=by
 refine ac hm v7 (by simp) ?_
 simp[nV,nW]
 refine aA hm [] (fun i:Nat=>[(5,.val (.int .i64 i))]) (fun i=>[(3,.box [.selfN 3 151 false,.ownT 1 (eY (s.take i)).length 5]),(1,.arr (eY (s.take i)).length 1 (av (eY (s.take i))))]) (fun i=>i≤s.length) (fun i=>s.length-i) 0 (by omega) ?_ ?_
 ·exact aS.trans (m3 (k:=3) (d:=3) (t:=151) 1 5 (by simp) (by simp) (by simp[ap,a8]) (by simp[a8]) (by simp)) (an rfl rfl (by simp[St.bld,aR,ap,a8,put,ba,SV.erase]) (by simp[St.bld,bM,a8,put,aE,cc,Ob.erase,SV.erase,av]) (by simp[St.bld,bQ]))
 rintro i hi
 simp
 by_cases h:i < s.length
 ·obtain ⟨c,hc⟩:∃ c,s[i]=c:=⟨_,rfl⟩
  have he:=DZ h hc
  have hl:=tK (s.take i)
  rw[List.length_take] at hl
  have hla:(eY (s.take i)).length < 900000:=by omega
  have hK:=fun d:UInt8=>HV (eY (s.take i)).length (eY (s.take i)) d hla
  have hW:=fun d:UInt8=>em (eY (s.take i)).length (eY (s.take i)) d (by omega)
  rcases yt c with h1 | h1 | h1 | h1
  ·simp (disch:=omega) [wl,hc]
   refine callM [(1000,3),(1001,1)] [] (hK 94) rfl rfl ⟨rfl,rfl,trivial⟩ ⟨_,_,rfl,⟨rfl,rfl⟩,rfl⟩ rfl ?_
   simp[bb]
   simp (disch:=omega) [wl]
   refine ae (i+1) (by omega) (by omega) ?_
   simp[he,h1]
   exact aQ
  ·simp (disch:=omega) [wl,hc]
   refine callM [(1000,3),(1001,1)] [] (hK 110) rfl rfl ⟨rfl,rfl,trivial⟩ ⟨_,_,rfl,⟨rfl,rfl⟩,rfl⟩ rfl ?_
   simp[bb]
   simp (disch:=omega) [wl]
   refine ae (i+1) (by omega) (by omega) ?_
   simp[he,h1]
   exact aQ
  ·simp (disch:=omega) [wl,hc]
   refine callM [(1000,3),(1001,1)] [] (hK 39) rfl rfl ⟨rfl,rfl,trivial⟩ ⟨_,_,rfl,⟨rfl,rfl⟩,rfl⟩ rfl ?_
   simp[bb]
   simp (disch:=omega) [wl]
   refine ae (i+1) (by omega) (by omega) ?_
   simp[he,h1]
   exact aQ
  ·simp (disch:=omega) [wl,hc]
   refine callM [(1000,3),(1001,1)] [] (hW c) rfl rfl ⟨rfl,rfl,trivial⟩ ⟨rfl,_,_,rfl,rfl,rfl⟩ rfl ?_
   simp[bb]
   simp (disch:=omega) [wl]
   refine ae (i+1) (by omega) (by omega) ?_
   simp[he,h1]
   exact aQ
 ·obtain rfl:i=s.length:=by omega
  have hl:=tK s
  have hla:(eY s).length≤9223372036854775800:=by omega
  have hw:write s=if s.any ix then 34::(eY s++[34]) else eY s:=rfl
  simp (disch:=omega) [wl]
  refine callM [(1000,3),(1001,1)] [] (iq (eY s).length (eY s) (by omega)) rfl rfl (by simp[oK,bb,Vs.ren,a8,Ob.ren,SV.ren]) ⟨rfl,rfl⟩ rfl ?_
  simp
  refine a7 hC ?_
  cases ha:s.any ix with
  | true=>
   rw[ha] at hw
   simp (disch:=omega) [wl,ha,hw]
   omega
  | false=>
   rw[ha] at hw
   simp (disch:=omega) [wl,ha,hw]
end Go.Vs.YtmaenhgipojmfaaGreatDoor
