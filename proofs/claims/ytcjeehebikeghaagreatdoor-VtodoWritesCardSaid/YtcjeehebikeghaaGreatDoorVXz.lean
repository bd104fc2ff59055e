/- A part of a proof. No conditions. -/
import Derived.Test.YtcjeehebikeghaaGreatDoorVYz
set_option linter.unusedVariables false
set_option linter.unusedSimpArgs false
set_option maxRecDepth 100000
set_option maxHeartbeats 16000000
namespace Go.Vs.YtcjeehebikeghaaGreatDoor.Vt
open Go.Lib Go.Vs.U8 Go.Vs.Pa Go.Vs.Nu Go.Vs.Mo Go.Vs.Vt Go.Vs.YtcjeehebikeghaaGreatDoor.Rc
theorem agy{x:Lif}(h:tQ x=0):-1<=x.p/\x.p<=100/\-1<=x.d/\x.d<=315537897599/\x.s<=4:=by
 unfold tQ at h;split at h
 ·simp at h
 ·split at h
  ·simp at h
  ·omega
end Go.Vs.YtcjeehebikeghaaGreatDoor.Vt
namespace Go.Vs.YtcjeehebikeghaaGreatDoor.Vt
open Go.Proofs Go.Vs.U8 Go.Vs.Pa Go.Vs.Nu Go.Vs.Mo Go.Vs.Vt Go.Vs.YtcjeehebikeghaaGreatDoor.Rc
theorem ago{l:List Ln}{x:Lif}(a:kl l)(b:og 1000 l):kl (Jf l x)/\og 1000 (Jf l x)/\(Jf l x).length<=l.length+3:=by
 unfold Jf;split
 ·exact⟨a,b,by omega⟩
 ·next c=>
  obtain⟨d,e,f,g,h⟩:=agy (by simpa using c);have i:=Ro x.s;have j:=itoa_len (n:=x.p) ⟨d,e⟩;have k:=We x;have m:=QV l bN (qw x.s) (decide (x.s≠0));have o:=QV (rB l bN (qw x.s) (decide (x.s≠0))) cY (Lib.itoa x.p) (decide (0<=x.p));have p:=QV (rB (rB l bN (qw x.s) (decide (x.s≠0))) cY (Lib.itoa x.p) (decide (0<=x.p))) bq (xt x) (decide (0<=x.d));exact⟨Rn (Rn (Rn a (by decide) (by omega)) (by decide) (by omega)) (by decide) (by omega),ae1 (ae1 (ae1 b (by omega)) (by omega)) (by omega),by omega⟩
def scLf:Sc:=.struct [.int .u8,.int .i64,.int .i64]
theorem agz:∀ {row:List IV},Sh scLf row->∃x:Lif,row=[.int .u8 x.s,.int .i64 x.p,.int .i64 x.d]/\0<=x.s
 |r,h=>by
  obtain⟨a,b,rfl,⟨s,rfl,i⟩,c,d,rfl,⟨p,rfl,_⟩,e,f,rfl,⟨t,rfl,_⟩,g⟩:=h;have g:f=[]:=g;subst g;exact⟨⟨s,p,t⟩,rfl,(ahf i).1⟩
theorem agp{N B:Nat} : ∀ {r:List Ln} {i:Nat} {l m:List Ln},D9 N r i l=.ok m->kl l->kl r->l.length+r.length<=B->kl m/\m.length<=B
 |[],i,l,m,h,a,_,b=>by
  unfold D9 at h;split at h
  ·cases h
  ·cases h;exact⟨a,by simpa using b⟩
 |x::r,i,l,m,h,a,c,b=>by
  unfold D9 at h;split at h
  ·refine agp h (Bm a (c x (by simp))) (fun y d=>c y (List.mem_cons_of_mem _ d)) ?_;have:=Bn l x;simp only[List.length_cons]at b;omega
  ·cases h
theorem agq{N:Nat} : ∀ {r:List Ln} {i:Nat} {l:List Ln} {e:Int} {p:Nat},D9 N r i l=.no e p->e≠0/\p<=N+i+r.length
 |[],i,l,e,p,h=>by
  unfold D9 at h;split at h
  ·next a=>cases h;exact⟨Un a,by omega⟩
  ·cases h
 |x::r,i,l,e,p,h=>by
  unfold D9 at h;split at h
  ·have:=agq h;simp only[List.length_cons];exact⟨this.1,by omega⟩
  ·next b=>cases h;exact⟨b,by omega⟩
theorem agh(l c:List Ln)(x:Lif)(H:0<=x.s):Fn G2 T_ 4 [.slice (ls l),.slice (ls c),Lif.iv x] (.bool true):=by
 refine ae hm adN (by simp) ?_;have K:=up (Vx l);have A:=up (Vx c);simp[ab4,Lif.iv];refine aa K ?_;cases I:sh l with
 |false=>
  simp(disch:=omega)[wl];refine aa JL ?_;simp
 |true=>
  simp(disch:=omega)[wl];refine aa A ?_;cases s:sh c with
  |false=>
   simp(disch:=omega)[wl];refine aa JL ?_;simp
  |true=>
   obtain⟨Q,d⟩:=SG I;obtain⟨R,y⟩:=SG s;have C:=Te I;have J:=Te s;have L:=up (aaS l (by omega) d);have D:=up (aaS c (by omega) y);obtain⟨E,S,oy⟩:=ago (x:=x) d C;have F:=Rp l x d (by omega) H;have f:=af3 l x (by omega) H;have M:=Zl l c d C y J (by omega) (by omega);have a:=agf l c d C y J (by omega) (by omega);have j:=up (aeH (Jf l x) (by omega) E);have g:=up (adO (Jf l x) (Jf l x) (by omega) (by omega) E E);have u:=up (aeH l (by omega) d);have n:=up (adO l l (by omega) (by omega) d d);rw[decide_eq_true rfl]at g n;obtain⟨k,N⟩:∃k,Jf l x=k:=⟨_,rfl⟩;rw[N]at F f j g;simp only[Lif.iv]at F f;simp(disch:=omega)[wl];refine aa L ?_;simp;refine aa F ?_;simp;refine aa D ?_;simp;refine aa M ?_;cases q:Oo l c with
   |no e p=>
    rw[q]at a;obtain⟨O,U⟩:=agq (by unfold Oo at q;exact q);have z:=up (uv e [(p:Int)]);have h:=up (Qf e [(p:Int)] (by simp;omega) (by simp));have i:=up (aeH [] (by simp) (by simp[kl]));have b:=up (adO [] [] (by simp) (by simp) (by simp[kl]) (by simp[kl]));rw[decide_eq_true rfl]at b;simp only[ls,List.map_nil]at i b;obtain⟨t,v,w⟩:=dD e [(p:Int)];rw[w]at z h;simp only[paI,paD,w]at a |-;simp;refine aa a ?_;simp;refine aa j ?_;simp;refine aa f ?_;simp;refine aa g ?_;simp;refine aa i ?_;simp;refine aa b ?_;simp;refine aa z ?_;simp;refine aa h ?_;simp(disch:=omega)[wl,O];refine aa u ?_;simp;refine aa n ?_;simp;refine aa JL ?_;simp;rfl
   |ok m=>
    rw[q]at a;obtain⟨o,P⟩:=agp (B:=l.length+c.length) (by unfold Oo at q;exact q) d y (Nat.le_refl _);have z:=up wA;have h:=up NG;have i:=up (aeH m (by omega) o);have b:=up (adO m m (by omega) (by omega) o o);rw[decide_eq_true rfl]at b;simp only[paI,paD]at a |-;simp;refine aa a ?_;simp;refine aa j ?_;simp;refine aa f ?_;simp;refine aa g ?_;simp;refine aa i ?_;simp;refine aa b ?_;simp;refine aa z ?_;simp;refine aa h ?_;simp(disch:=omega)[wl];refine aa u ?_;simp;refine aa n ?_;simp;refine aa JL ?_;simp;rfl
theorem VtodoWrites_true(a:List IV)(h:aaj [.slice scL,.slice scL,scLf] a):Fn G2 T_ 4 a (.bool true):=by
 obtain⟨v,b,rfl,⟨p,f,_,j⟩,x,d,rfl,⟨q,g,_,k⟩,y,e,rfl,⟨m,rfl,n⟩,i⟩:=h;have i:e=[]:=i;subst i;simp only[List.cons.injEq,and_true]at f g;subst f g;obtain⟨l,rfl⟩:=lines_of j;obtain⟨c,rfl⟩:=lines_of k;obtain⟨z,rfl,o⟩:=agz (row:=m) n;exact agh l c z o
end Go.Vs.YtcjeehebikeghaaGreatDoor.Vt
