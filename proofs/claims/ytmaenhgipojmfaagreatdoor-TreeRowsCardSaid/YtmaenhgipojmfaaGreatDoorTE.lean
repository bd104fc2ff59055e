/- The walk of fold's Unfold. No conditions. -/
import Derived.Test.YtmaenhgipojmfaaGreatDoorTD
set_option linter.unusedVariables false
set_option linter.unusedSimpArgs false
namespace Go.Vs.U8
end Go.Vs.U8
namespace Go.Vs.Fd
end Go.Vs.Fd
namespace Go.Vs.YtmaenhgipojmfaaGreatDoor
set_option linter.unusedSimpArgs false
set_option linter.unusedVariables false
open Go.Proofs Go.Vs.U8 Go.Vs.Fd
set_option maxRecDepth 100000
set_option maxHeartbeats 16000000
def M7:UfR→IV
 | .no e p=>.tuple [.slice [],cl e [(p:Int)]]
 | .ok l=>.tuple [.slice (uE l),.nili]
theorem Ij (u:Str):u.take (le u).length=le u:=by
 unfold le
 split
 ·rw[List.length_dropLast,List.dropLast_eq_take]
 ·rw[List.take_length]
theorem mq (t:Str):t.take (eg t).length=eg t:=by
 unfold eg
 split
 ·have h:=Ij (t.take (t.idxOf 10))
  have hl:(le (t.take (t.idxOf 10))).length≤t.idxOf 10:=by
   have:=congrArg List.length h
   rw[List.length_take,List.length_take] at this
   omega
  rw[List.take_take,Nat.min_eq_left hl] at h
  exact h
 ·rw[List.take_length]
theorem Bu {t:Str} (h:eT t=true) (h13:13∉eg t):∃ c r,eg t=c::r∧(t.take (eg t).length).drop 1=r:=by
 rw[mq]
 cases hr:eg t with
 | cons c r=>exact ⟨c,r,rfl,rfl⟩
 | nil=>
  exfalso
  cases t with
  | nil=>cases h
  | cons c r=>
   have hc:cX c=false:=Bl c h
   have h1:jk (c::r)=.ok 0 (pu (c::r)):=by rw[wY,hr];rfl
   unfold jk at h1
   rw[List.findIdx_cons,hc] at h1
   simp only[cond_false] at h1
   split at h1
   ·simp at h1
   ·split at h1
    ·simp at h1
    ·split at h1 <;> simp at h1
theorem GK:uE []=[]:=rfl
def zh (s:Str) (v w a:Nat) (D:List Lf) (cur:Option Lf):St:=match eT (s.drop a),cur with
 | true,some y=>⟨[(5,.val (.int .i64 a)),(4,.town 4 v),(0,.val (.str s))],[(4,.tab v 2 (uE D++[fB y]) [(D.length,1,.own 83 w)]),(83,.arr w 2 (x6 y.ps))],[83],87,G⟩
 | _,_=>⟨[(5,.val (.int .i64 a)),(4,.town 4 v),(0,.val (.str s))],[(4,.tab v 2 (uE (D++cur.toList)) [])],[83],87,G⟩
theorem Bv {σ:St} (s:Str) (v w a:Nat) (D:List Lf) (y:Lf) (hn:σ.n=87) (k9:σ.gl=G) (hE:aR σ.env [(5,.val (.int .i64 a)),(4,.town 4 v),(0,.val (.str s))])
  (ho:bM σ.objs [(4,.tab v 2 (uE D++[fB y]) [(D.length,1,.own 83 w)]),(83,.arr w 2 (x6 y.ps))]) (hr:σ.ro.contains 4=false):aS σ (zh s v w a D (some y)):=by
 have h1:aS σ ⟨[(5,.val (.int .i64 a)),(4,.town 4 v),(0,.val (.str s))],[(4,.tab v 2 (uE D++[fB y]) [(D.length,1,.own 83 w)]),(83,.arr w 2 (x6 y.ps))],[83],87,G⟩:=
  an hn.symm k9.symm hE ho (by simp[bQ];simpa using hr)
 unfold zh
 split
 ·next h=>obtain rfl:=Option.some.inj h;exact h1
 ·refine aS.trans h1 (aS.trans (cV (id:=4) [] rfl rfl (by simp)) (an rfl rfl (by simp[aR,ap,a8]) ?_ (by simp[bQ])))
  simp[bM,a8,put,EB]
structure UfX where
 v:Nat
 w:Nat
 a:Nat
 D:List Lf
 cur:Option Lf
theorem Bw (s:Str) (hs:s.length < 100000):Fn G Tryz.prog iO [.str s] (M7 (bP s)):=by
 refine ac hm z7 (by simp) ?_
 obtain ⟨R,hR⟩:∃ R,bP s=R:=⟨_,rfl⟩
 rw[hR]
 unfold bP at hR
 simp[rD,rE]
 refine y3 hm 0 (fun _:Unit=>⟨[],[],[],87,G⟩) (fun _=>False) (fun _=>0) rfl (fun _=>rfl) ?_ (fun _ h=>h.elim)
 by_cases h6:6000 < s.length
 ·rw[if_pos h6] at hR
  subst hR
  have hN:=dF 5 6000
  rw[if_neg (by omega)] at hN
  simp (disch:=omega) [wl]
  refine a7 hN ?_
  simp[M7]
 ·rw[if_neg h6] at hR
  simp (disch:=omega) [wl]
  refine bH hm ?_
  simp
  refine DO hm (fun x:UfX=>zh s x.v x.w x.a x.D x.cur)
   (fun x=>x.a≤s.length∧D1 (s.drop x.a) x.a x.D x.cur=R∧(x.cur=none→x.D=[])∧x.D.length+x.cur.toList.length≤x.a∧(∀ y,x.cur=some y→y.t.length≤x.a∧y.ps.length≤x.a)) (fun x=>s.length-x.a) ⟨0,0,0,[],none⟩ ⟨by simp,by simpa using hR,by simp,by simp,by simp⟩ ?_ ?_ ?_
  ·have e:zh s 0 0 0 [] none=⟨[(5,.val (.int .i64 0)),(4,.town 4 0),(0,.val (.str s))],[(4,.tab 0 2 [] [])],[83],87,G⟩:=by unfold zh;cases eT (s.drop 0) <;> rfl
   show aS _ (zh s 0 0 0 [] none)
   rw[e]
   exact aS.trans (oP (k:=4) 4 2 (by simp) (by simp[ap,a8])) (an rfl rfl (by simp[St.adoptT,aR,ap,a8,put,ba,SV.erase]) (by simp[St.adoptT,bM,a8,put,aE,Ob.erase]) (by simp[St.adoptT,bQ]))
  ·intro x
   unfold zh
   split <;> rfl
  rintro ⟨v,w,a,D,cur⟩ ⟨h1,h2,h3,h4,h5⟩
  simp only at h1 h2 h3 h4 h5
  by_cases h:a < s.length
  ·obtain ⟨c,hx⟩:∃ c,s[a]=c:=⟨_,rfl⟩
   obtain ⟨t,ht⟩:∃ t,s.drop a=t:=⟨_,rfl⟩
   have hd:t=c::s.drop (a+1):=by rw[←ht,←hx];exact List.drop_eq_getElem_cons h
   have hg:eT t=Fd.blank c:=by rw[hd];rfl
   have hbl:Fd.blank c=decide (c.toNat=32∨c.toNat=9):=by
    rw[Bool.eq_iff_iff]
    simp only[Fd.blank,Bool.or_eq_true,beq_iff_eq,decide_eq_true_eq,←UInt8.toNat_inj]
    exact Iff.rfl
   have htl:t.length=s.length-a:=by rw[←ht,List.length_drop]
   have hne:t≠[]:=by rw[hd];simp
   have hlt:=l7 c
   have hI10:=dg t 10
   have hI13:=dg (eg t) 13
   have hTr:=G9 (t.take (t.idxOf 10)) (by rw[List.length_take];omega)
   have hN0:=dF 4 0
   rw[if_neg (by omega)] at hN0
   have hrl:(eg t).length≤t.length:=by rw[←mq];rw[List.length_take];omega
   rw[ht,jL hne,wY] at h2
   have hre:=jK (t:=t) (n:=(eg t).length) (nx:=pu t)
   rw[wY] at hre
   cases hb:Fd.blank c with
   | true=>
    rw[hb] at hg hbl
    have hc:c.toNat=32∨(¬c.toNat=32∧c.toNat=9):=by
     have:=of_decide_eq_true hbl.symm
     omega
    cases cur with
    | none=>
     rw[if_pos ⟨hg,rfl⟩] at h2
     subst h2
     have:=h3 rfl
     subst this
     simp only[zh,ht,hg]
     rcases hc with hc | ⟨hc',hc⟩
     all_goals
      simp (disch:=omega) [wl,hx,hc,GK]
      refine a7 hN0 ?_
      simp[M7]
    | some y=>
     rw[if_neg (by simp)] at h2
     obtain ⟨y1,y2⟩:=h5 y rfl
     simp only[zh,ht,hg]
     rcases hc with hc | ⟨hc',hc⟩
     all_goals
      simp (disch:=omega) [wl,hx,hc,aj]
      refine ⟨by omega,?_⟩
      rw[ht]
      refine FD hm [9] [83] (fun _:Unit=>[(7,.val (.str (eg t))),(8,.val (.int .i64 (a+pu t:Nat)))]) (fun _=>[]) (fun _=>True) ?_ ?_
      ·simp
       refine a7 hI10 ?_
       unfold eg pu
       by_cases h10:(10:UInt8)∈t
       ·have hix:=List.idxOf_lt_length_iff.2 h10
        rw[qh h10,if_pos h10,if_pos h10]
        simp (disch:=omega) [wl]
        refine ⟨by omega,?_⟩
        refine a7 hTr ?_
        simp (disch:=omega) [wl]
        refine eA () trivial ?_
        simp
        exact an rfl rfl (by simp[aR,ap,a8];omega) (by simp[bM,a8]) (by simp[bQ])
       ·rw[ir h10,if_neg h10,if_neg h10]
        simp (disch:=omega) [wl]
        refine eA () trivial ?_
        simp
        exact an rfl rfl (by simp[aR,ap,a8];omega) (by simp[bM,a8]) (by simp[bQ])
      ·rintro ⟨⟩ -
       simp
       refine a7 hI13 ?_
       by_cases h13:(13:UInt8)∈eg t
       ·have hix:=List.idxOf_lt_length_iff.2 h13
        rw[if_pos h13] at h2
        simp only at h2
        subst h2
        rw[qh h13]
        have hN:=dF 4 ((a:Int)+((eg t).idxOf 13:Nat))
        rw[if_neg (by omega)] at hN
        simp (disch:=omega) [wl]
        refine a7 hN ?_
        simp[M7]
       ·rw[if_neg h13] at h2 hre
        obtain ⟨r1,r2,r3,r4⟩:=hre rfl hne
        obtain ⟨c',r,hr1,hr2⟩:=Bu hg h13
        simp only[hg] at h2
        rw[hr2] at h2
        have hrlen:(eg t).length=r.length+1:=by rw[hr1];rfl
        have hM:=Ku v w D y r (a+1) (by omega) (by omega)
        rw[ir h13]
        simp (disch:=omega) [wl]
        refine bH hm ?_
        simp (disch:=omega) [wl,aj]
        have hta:(eg t).tail=r:=by rw[hr1];rfl
        rw[hta]
        simp only[Int.natCast_add,Int.cast_ofNat_Int] at hM
        refine ⟨by omega,rfl,?_⟩
        refine callM [(1000,4),(1001,83)] [] hM rfl rfl ⟨rfl,rfl,trivial⟩ ⟨rfl,[],[],rfl,⟨[],[],rfl,rfl,rfl⟩,rfl⟩ rfl ?_
        simp (disch:=omega) [wl]
        refine ae ⟨v,w+1,a+pu t,D,some ⟨y.t++r,y.ps++[(y.t.length,a+1)]⟩⟩ ⟨by simp only;omega,by simp only[←List.drop_drop,ht];exact h2,by simp,by simp only[Option.toList_some,List.length_singleton] at h4 ⊢;omega,fun z hz=>by
         obtain rfl:=Option.some.inj hz
         simp only[List.length_append,List.length_singleton]
         omega⟩ (by simp only;omega) ?_
        refine Bv s v (w+1) (a+pu t) D _ rfl rfl ?_ ?_ rfl
        ·simp[aR,ap,a8]
        ·simp[bM,a8]
   | false=>
    rw[hb] at hg hbl
    have hc:¬c.toNat=32∧¬c.toNat=9:=by
     have:=of_decide_eq_false hbl.symm
     omega
    obtain ⟨hc1,hc2⟩:=hc
    rw[if_neg (by rw[hg];simp)] at h2
    simp only[zh,ht,hg]
    simp (disch:=omega) [wl,hx,hc1,hc2]
    rw[ht]
    refine ⟨by omega,?_⟩
    refine FD hm [9] [83] (fun _:Unit=>[(7,.val (.str (eg t))),(8,.val (.int .i64 (a+pu t:Nat)))]) (fun _=>[]) (fun _=>True) ?_ ?_
    ·simp
     refine a7 hI10 ?_
     unfold eg pu
     by_cases h10:(10:UInt8)∈t
     ·have hix:=List.idxOf_lt_length_iff.2 h10
      rw[qh h10,if_pos h10,if_pos h10]
      simp (disch:=omega) [wl]
      refine ⟨by omega,?_⟩
      refine a7 hTr ?_
      simp (disch:=omega) [wl]
      refine eA () trivial ?_
      simp
      exact an rfl rfl (by simp[aR,ap,a8];omega) (by simp[bM,a8]) (by simp[bQ])
     ·rw[ir h10,if_neg h10,if_neg h10]
      simp (disch:=omega) [wl]
      refine eA () trivial ?_
      simp
      exact an rfl rfl (by simp[aR,ap,a8];omega) (by simp[bM,a8]) (by simp[bQ])
    ·rintro ⟨⟩ -
     simp
     refine a7 hI13 ?_
     by_cases h13:(13:UInt8)∈eg t
     ·have hix:=List.idxOf_lt_length_iff.2 h13
      rw[if_pos h13] at h2
      simp only at h2
      subst h2
      rw[qh h13]
      have hN:=dF 4 ((a:Int)+((eg t).idxOf 13:Nat))
      rw[if_neg (by omega)] at hN
      simp (disch:=omega) [wl]
      refine a7 hN ?_
      simp[M7]
     ·rw[if_neg h13] at h2 hre
      obtain ⟨r1,r2,r3,r4⟩:=hre rfl hne
      simp only[hg,mq] at h2
      have hM:=Ih (v+1) (D++cur.toList) (eg t) a (by omega)
      have He:(D++cur.toList).length≤a:=by rw[List.length_append];exact h4
      obtain ⟨E,hE⟩:∃ E,D++cur.toList=E:=⟨_,rfl⟩
      rw[hE] at h2 hM He ⊢
      rw[ir h13]
      simp (disch:=omega) [wl]
      refine bH hm ?_
      simp (disch:=omega) [wl,aj]
      refine ⟨by omega,?_⟩
      refine callM [(1000,4),(19,83)] [] hM rfl rfl ⟨rfl,trivial⟩ ⟨rfl,[],[],rfl,⟨[],[],rfl,rfl,rfl⟩,rfl⟩ rfl ?_
      simp (disch:=omega) [wl]
      refine ae ⟨v+1,0,a+pu t,E,some ⟨eg t,[(0,a)]⟩⟩ ⟨by simp only;omega,by simp only[←List.drop_drop,ht];exact h2,by simp,by simp only[Option.toList_some,List.length_singleton];omega,fun z hz=>by
       obtain rfl:=Option.some.inj hz
       simp only[List.length_singleton]
       omega⟩ (by simp only;omega) ?_
      refine Bv s (v+1) 0 (a+pu t) E _ rfl rfl ?_ ?_ rfl
      ·simp[aR,ap,a8]
      ·simp[bM,a8,x6,fB]
  ·obtain rfl:a=s.length:=by omega
   rw[List.drop_length,nF] at h2
   subst h2
   simp only[zh,List.drop_length,eT]
   simp (disch:=omega) [wl,M7]
end Go.Vs.YtmaenhgipojmfaaGreatDoor
namespace Go.Vs.YtmaenhgipojmfaaGreatDoor
set_option linter.unusedSimpArgs false
set_option linter.unusedVariables false
open Go.Proofs Go.Vs.U8 Go.Vs.Fd
set_option maxRecDepth 100000
set_option maxHeartbeats 16000000
def Mx:UfR→IV
 | .no e p=>.tuple [.slice [],.int .i64 e,.int .i64 (p:Int)]
 | .ok l=>.tuple [.slice (uE l),.int .i64 0,.int .i64 0]
def zi (s:Str) (v w a:Nat) (D:List Lf) (cur:Option Lf):St:=match eT (s.drop a),cur with
 | true,some y=>⟨[(6,.val (.int .i64 a)),(5,.town 5 v),(0,.val (.str s))],[(5,.tab v 2 (uE D++[fB y]) [(D.length,1,.own 83 w)]),(83,.arr w 2 (x6 y.ps))],[83],89,G⟩
 | _,_=>⟨[(6,.val (.int .i64 a)),(5,.town 5 v),(0,.val (.str s))],[(5,.tab v 2 (uE (D++cur.toList)) [])],[83],89,G⟩
theorem Bx {σ:St} (s:Str) (v w a:Nat) (D:List Lf) (y:Lf) (hn:σ.n=89) (k9:σ.gl=G) (hE:aR σ.env [(6,.val (.int .i64 a)),(5,.town 5 v),(0,.val (.str s))])
  (ho:bM σ.objs [(5,.tab v 2 (uE D++[fB y]) [(D.length,1,.own 83 w)]),(83,.arr w 2 (x6 y.ps))]) (hr:σ.ro.contains 5=false):aS σ (zi s v w a D (some y)):=by
 have h1:aS σ ⟨[(6,.val (.int .i64 a)),(5,.town 5 v),(0,.val (.str s))],[(5,.tab v 2 (uE D++[fB y]) [(D.length,1,.own 83 w)]),(83,.arr w 2 (x6 y.ps))],[83],89,G⟩:=
  an hn.symm k9.symm hE ho (by simp[bQ];simpa using hr)
 unfold zi
 split
 ·next h=>obtain rfl:=Option.some.inj h;exact h1
 ·refine aS.trans h1 (aS.trans (cV (id:=5) [] rfl rfl (by simp)) (an rfl rfl (by simp[aR,ap,a8]) ?_ (by simp[bQ])))
  simp[bM,a8,put,EB]
theorem M8 (s:Str) (a n:Nat):(s.take (a+n)).drop a=(s.drop a).take n:=by rw[List.take_drop]
theorem Kx (s:Str) (a n:Nat):(s.take (a+n)).drop (a+1)=((s.drop a).take n).drop 1:=by rw[List.take_drop,List.drop_drop]
theorem Ga (s:Str) (hs:s.length < 100000):Fn G Tryz.prog kB [.str s] (Mx (bP s)):=by
 refine ac hm wJ (by simp) ?_
 obtain ⟨R,hR⟩:∃ R,bP s=R:=⟨_,rfl⟩
 rw[hR]
 unfold bP at hR
 simp[pD,pE]
 by_cases h6:6000 < s.length
 ·rw[if_pos h6] at hR
  subst hR
  simp (disch:=omega) [wl,Mx]
 ·rw[if_neg h6] at hR
  simp (disch:=omega) [wl]
  refine DO hm (fun x:UfX=>zi s x.v x.w x.a x.D x.cur)
   (fun x=>x.a≤s.length∧D1 (s.drop x.a) x.a x.D x.cur=R∧(x.cur=none→x.D=[]∧x.a=0)∧x.D.length+x.cur.toList.length≤x.a∧(∀ y,x.cur=some y→y.t.length≤x.a∧y.ps.length≤x.a)) (fun x=>s.length-x.a) ⟨0,0,0,[],none⟩ ⟨by simp,by simpa using hR,by simp,by simp,by simp⟩ ?_ ?_ ?_
  ·have e:zi s 0 0 0 [] none=⟨[(6,.val (.int .i64 0)),(5,.town 5 0),(0,.val (.str s))],[(5,.tab 0 2 [] [])],[83],89,G⟩:=by unfold zi;cases eT (s.drop 0) <;> rfl
   show aS _ (zi s 0 0 0 [] none)
   rw[e]
   exact aS.trans (oP (k:=5) 5 2 (by simp) (by simp[ap,a8])) (an rfl rfl (by simp[St.adoptT,aR,ap,a8,put,ba,SV.erase]) (by simp[St.adoptT,bM,a8,put,aE,Ob.erase]) (by simp[St.adoptT,bQ]))
  ·intro x
   unfold zi
   split <;> rfl
  rintro ⟨v,w,a,D,cur⟩ ⟨h1,h2,h3,h4,h5⟩
  simp only at h1 h2 h3 h4 h5
  by_cases h:a < s.length
  ·obtain ⟨c,hx⟩:∃ c,s[a]=c:=⟨_,rfl⟩
   have hRw:=Nn s a (by omega) (by omega)
   have cr:=M8 s a
   have cr1:=Kx s a
   obtain ⟨t,ht⟩:∃ t,s.drop a=t:=⟨_,rfl⟩
   have hd:t=c::s.drop (a+1):=by rw[←ht,←hx];exact List.drop_eq_getElem_cons h
   have hg:eT t=Fd.blank c:=by rw[hd];rfl
   have hbl:Fd.blank c=decide (c.toNat=32∨c.toNat=9):=by
    rw[Bool.eq_iff_iff]
    simp only[Fd.blank,Bool.or_eq_true,beq_iff_eq,decide_eq_true_eq,←UInt8.toNat_inj]
    exact Iff.rfl
   have htl:t.length=s.length-a:=by rw[←ht,List.length_drop]
   have hne:t≠[]:=by rw[hd];simp
   have hlt:=l7 c
   have hrl:(eg t).length≤t.length:=by rw[←mq];rw[List.length_take];omega
   have hre:=jK (t:=t) (n:=(eg t).length) (nx:=pu t)
   rw[ht] at hRw h2 cr cr1
   rw[jL hne] at h2
   rw[wY] at hRw h2 hre
   cases hb:Fd.blank c with
   | true=>
    rw[hb] at hg hbl
    have hc:c.toNat=32∨(¬c.toNat=32∧c.toNat=9):=by
     have:=of_decide_eq_true hbl.symm
     omega
    cases cur with
    | none=>
     rw[if_pos ⟨hg,rfl⟩] at h2
     subst h2
     obtain ⟨rfl,rfl⟩:=h3 rfl
     simp only[zi,ht,hg]
     rcases hc with hc | ⟨hc',hc⟩
     all_goals
      simp (disch:=omega) [wl,hx,hc,GK,Mx]
    | some y=>
     rw[if_neg (by simp)] at h2
     obtain ⟨y1,y2⟩:=h5 y rfl
     simp only[Option.toList_some,List.length_singleton] at h4
     simp only[zi,ht,hg]
     rcases hc with hc | ⟨hc',hc⟩
     all_goals
      simp (disch:=omega) [wl,hx,hc,aj]
      refine a7 hRw ?_
      by_cases h13:(13:UInt8)∈eg t
      ·have hix:=List.idxOf_lt_length_iff.2 h13
       rw[if_pos h13] at h2
       simp only at h2
       subst h2
       rw[if_pos h13]
       simp (disch:=omega) [wl,Al,Mx]
      ·rw[if_neg h13] at h2 hre
       obtain ⟨r1,r2,r3,r4⟩:=hre rfl hne
       obtain ⟨c',r,hr1,hr2⟩:=Bu hg h13
       simp only[hg] at h2
       rw[hr2] at h2
       have hrlen:(eg t).length=r.length+1:=by rw[hr1];rfl
       have cr1':=cr1 (eg t).length
       rw[hr2] at cr1'
       rw[if_neg h13]
       have htn:((a:Int)+((eg t).length:Nat)).toNat=a+(eg t).length:=by omega
       simp (disch:=omega) [wl,Al,aj,pH,fB,x7,htn,cr1',zg]
       refine ⟨by omega,by omega,by omega,?_⟩
       refine ae ⟨v,w+1,a+pu t,D,some ⟨y.t++r,y.ps++[(y.t.length,a+1)]⟩⟩ ⟨by simp only;omega,by simp only[←List.drop_drop,ht];exact h2,by simp,by simp only[Option.toList_some,List.length_singleton] at h4 ⊢;omega,fun z hz=>by
        obtain rfl:=Option.some.inj hz
        simp only[List.length_append,List.length_singleton]
        omega⟩ (by simp only;omega) ?_
       refine Bx s v (w+1) (a+pu t) D _ rfl rfl ?_ ?_ rfl
       ·simp[aR,ap,a8]
       ·simp[bM,a8,EA,fB]
   | false=>
    rw[hb] at hg hbl
    have hc:¬c.toNat=32∧¬c.toNat=9:=by
     have:=of_decide_eq_false hbl.symm
     omega
    obtain ⟨hc1,hc2⟩:=hc
    rw[if_neg (by rw[hg];simp)] at h2
    simp only[zi,ht,hg]
    simp (disch:=omega) [wl,hx,hc1,hc2]
    refine a7 hRw ?_
    by_cases h13:(13:UInt8)∈eg t
    ·have hix:=List.idxOf_lt_length_iff.2 h13
     rw[if_pos h13] at h2
     simp only at h2
     subst h2
     rw[if_pos h13]
     simp (disch:=omega) [wl,Al,Mx]
    ·rw[if_neg h13] at h2 hre
     obtain ⟨r1,r2,r3,r4⟩:=hre rfl hne
     simp only[hg,mq] at h2
     have cr':=cr (eg t).length
     rw[mq] at cr'
     have He:(D++cur.toList).length≤a:=by rw[List.length_append];exact h4
     obtain ⟨E,hE⟩:∃ E,D++cur.toList=E:=⟨_,rfl⟩
     rw[hE] at h2 He ⊢
     rw[if_neg h13]
     have htn:((a:Int)+((eg t).length:Nat)).toNat=a+(eg t).length:=by omega
     simp (disch:=omega) [wl,Al,aj,htn,cr']
     refine ⟨by omega,by omega,?_⟩
     refine ae ⟨v+1,0,a+pu t,E,some ⟨eg t,[(0,a)]⟩⟩ ⟨by simp only;omega,by simp only[←List.drop_drop,ht];exact h2,by simp,by simp only[Option.toList_some,List.length_singleton];omega,fun z hz=>by
      obtain rfl:=Option.some.inj hz
      simp only[List.length_singleton]
      omega⟩ (by simp only;omega) ?_
     refine Bx s (v+1) 0 (a+pu t) E _ rfl rfl ?_ ?_ rfl
     ·simp[aR,ap,a8]
     ·simp[bM,a8,x6,fB]
  ·obtain rfl:a=s.length:=by omega
   rw[List.drop_length,nF] at h2
   subst h2
   simp only[zi,List.drop_length,eT]
   simp (disch:=omega) [wl,Mx]
end Go.Vs.YtmaenhgipojmfaaGreatDoor
