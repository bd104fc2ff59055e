/- The walk of the statement TreeTells. No conditions. -/
import Derived.Test.YtnddjffndeaiiaaGreatDoorTN
set_option linter.unusedVariables false
set_option linter.unusedSimpArgs false
namespace Go.Vs.YtnddjffndeaiiaaGreatDoor
open Go.Proofs Go.Vs.U8 Go.Vs.Pa Go.Vs.Fd Go.Vs.Tr
set_option maxRecDepth 100000
set_option maxHeartbeats 32000000
theorem KL (l:cn) (i:Int):(we l i).length≤l.length:=by
 unfold we
 have:=List.length_filter_le (fun k=>decide (hX l k=i)) (List.range l.length)
 rw[List.length_range] at this
 exact this
theorem CV (a b:cn) (i:Int):Fn G Tryz.prog hY [.agg [.slice (gL a),.slice (gL b)],.int .i64 i] (.bool true):=by
 refine ac hm su (by simp) ?_
 have hA:=mG
 have hSa:=ql a
 have hSb:=ql b
 simp[lh,li]
 refine a7 hSa ?_
 cases hs1:nR a with
 | false=>
  simp (disch:=omega) [wl]
  refine a7 hA ?_
  simp
 | true=>
  simp (disch:=omega) [wl]
  refine a7 hSb ?_
  cases hs2:nR b with
  | false=>
   simp (disch:=omega) [wl]
   refine a7 hA ?_
   simp
  | true=>
   have fa:=nS hs1
   have fb:=nS hs2
   have al:=fa.1
   have hOa:=xb a fa
   have hOb:=xb b fb
   have hPa:=jZ a fa
   have hQa:=Gc a fa
   have hK:=GM a i al
   have hrK:=Kz a i al
   have hC:=iD a fa
   have hrC:=zk a fa
   have hD:=Bz a i al
   have hrD:=iC a i al
   have hS:=mt a b fa fb
   have hrS:=vu a b fa fb
   simp only[Ix] at hPa hQa
   have hkl:=KL a i
   obtain ⟨K,hKK⟩:∃ K,we a i=K:=⟨_,rfl⟩
   rw[hKK] at hK hrK hkl
   obtain ⟨E,hE⟩:∃ E,decide (a=b)=E:=⟨_,rfl⟩
   rw[hE] at hS hrS
   simp (disch:=omega) [wl]
   refine a7 hOa ?_
   simp (disch:=omega) [wl]
   refine a7 hPa ?_
   simp (disch:=omega) [wl]
   refine a7 hQa ?_
   simp (disch:=omega) [wl]
   refine a7 hK ?_
   simp (disch:=omega) [wl]
   refine a7 hrK ?_
   simp (disch:=omega) [wl]
   refine ⟨rfl,?_⟩
   refine a7 hC ?_
   simp (disch:=omega) [wl]
   refine a7 hrC ?_
   simp (disch:=omega) [wl]
   refine a7 hD ?_
   simp (disch:=omega) [wl]
   refine a7 hrD ?_
   simp (disch:=omega) [wl]
   refine a7 hOb ?_
   simp (disch:=omega) [wl]
   refine a7 hS ?_
   simp (disch:=omega) [wl]
   refine a7 hrS ?_
   cases E
   all_goals
    simp (disch:=omega) [wl,bT]
    refine ⟨rfl,?_⟩
    refine aA hm [] (fun j:Nat=>[(12,.val (.int .i64 j))]) (fun _=>[]) (fun j=>j≤K.length) (fun j=>K.length-j) 0 (by omega) ?_ ?_
    ·simp
     exact aQ
    intro j hj
    simp[bT]
    by_cases h:j < K.length
    ·obtain ⟨k,hk⟩:∃ k,K[j]=k:=⟨_,rfl⟩
     have hg:=x8 h hk
     simp (disch:=omega) [wl,bT,hg]
     refine ae (j+1) (by omega) (by omega) ?_
     simp
     exact aQ
    ·simp (disch:=omega) [wl,bT]
     refine a7 hA ?_
     simp
theorem zr (args:List IV) (h:DP [.arr 2 (.slice Mz),.int .i64] args):Fn G Tryz.prog hY args (.bool true):=by
 obtain ⟨v,b,rfl,⟨l,rfl,q,rfl,hq,hp⟩,x,d,rfl,⟨n,hn,_⟩,hd⟩:=h
 have hd:d=[]:=hd
 subst hd
 simp only[List.cons.injEq,and_true] at hn
 subst hn
 match q,hq with
 | [q0,q1],_=>
  obtain ⟨r0,rfl,_,h0⟩:=hp q0 (by simp)
  obtain ⟨r1,rfl,_,h1⟩:=hp q1 (by simp)
  obtain ⟨a,rfl⟩:=pN h0
  obtain ⟨b,rfl⟩:=pN h1
  exact CV a b n
end Go.Vs.YtnddjffndeaiiaaGreatDoor
