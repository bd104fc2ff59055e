/- A part of a proof. No conditions. -/
import Derived.Test.YtcjeehebikeghaaGreatDoorBE
import Derived.Lib.Builder
import Derived.Lib.UnsafeStr
import Derived.Lib.FrozenHead
import Derived.RegionTactic
import Derived.ChangeAlike
import Derived.BigRegion
set_option linter.unusedVariables false
set_option linter.unusedSimpArgs false
set_option maxRecDepth 1000000
set_option maxHeartbeats 4000000
namespace Go.Vs.YtcjeehebikeghaaGreatDoor.E
open Go.Proofs Go.Proofs.YtcjeehebikeghaaGreatDoor Go.RowKit Go.Extern.Stop Go.Stop Go.Extern
theorem ErrV.iface{W:World}{n:Int}{ps:List Int}{E:Value}(h:ErrV W n ps E):∃T v,E=.iface T v:=by
 cases ps with
 |nil=>exact⟨_,_,h⟩
 |cons p l=>obtain⟨pb,po,h,_⟩:=h;exact⟨_,_,h⟩

set_option maxHeartbeats 4000000 in
theorem As_eno(n:Int)(ps:List Int)(E:Value)(t:Addr)(old:Value)(w:World)(hE:ErrV w n ps E)(hg:w.cell? ⟨0,0,none⟩=some (.iface 271 (.agg #[.pointer (some ⟨8,37,none⟩)])))(ht0:w.cell? t=some old)(hf0:w.frozen? t=false) :
  Calls T_ 56 #[E,.iface 112 (.pointer (some t))] w fun ev w'=>ev=.returned (.bool true)/\w'=((((w.alloc (.cells #[.pointer (some t)] 112)).alloc (.cells #[.pointer (some ⟨8,112,none⟩),.pointer (some ⟨w.heap.size,0,none⟩),.int .u64 150] 190)).alloc (.cells #[.pointer (some ⟨8,112,none⟩),.pointer (some ⟨w.heap.size,0,none⟩),.int .u64 150] 190)).alloc (.cells #[.int .i64 n] 54)).setCell t (.int .i64 n):=by
 obtain⟨T,v,rfl⟩:=hE.iface;have h6:=@run_callFunc_extern T_ 116 _ (fun args=>ReflectliteValue.unpack (args.getD 0 (.tuple #[]))) Tryz.func116 (by kernel_rfl) (by kernel_rfl) (by kernel_rfl) (by kernel_rfl);have h7:=@run_callFunc_extern T_ 117 _ (ReflectliteValue.methodAny (ReflectliteValue.valueError "reflectlite.Value.Type" 0) (fun t _ _ _=>ReflectliteType.toType t)) Tryz.func117 (by kernel_rfl) (by kernel_rfl) (by kernel_rfl) (by kernel_rfl);have h8:=@run_callFunc_extern T_ 118 _ (ReflectliteValue.method (ReflectliteValue.valueError "reflectlite.Value.IsNil" 0) ReflectliteValue.isNil) Tryz.func118 (by kernel_rfl) (by kernel_rfl) (by kernel_rfl) (by kernel_rfl);have h27:=@run_callFunc_extern T_ 405 _ (ReflectliteType.abiMethod fun t=>do pure (.int .u8 (<-Rtype.kind t))) Tryz.func405 (by kernel_rfl) (by kernel_rfl) (by kernel_rfl) (by kernel_rfl);have h37:=@run_callFunc_extern T_ 418 _ (ReflectliteType.method ReflectliteType.elem) Tryz.func418 (by kernel_rfl) (by kernel_rfl) (by kernel_rfl) (by kernel_rfl);have h38:=@run_callFunc_extern T_ 419 _ (ReflectliteType.relation "Implements" ReflectliteType.implements_) Tryz.func419 (by kernel_rfl) (by kernel_rfl) (by kernel_rfl) (by kernel_rfl);have f6:=XI;have f7:=XJ;have mK:=Q7;have mE:=Q8;have mI:=Vb;have k1:=Wy;have k2:=Wz;have e1:=WA;have i1:=Xg;have hlt:0<w.heap.size:=qU (a:=⟨0,0,none⟩) hg;have htl:t.block<w.heap.size:=qU ht0;obtain⟨W1,hW1⟩:∃W1,W1=(w.alloc (.cells #[.pointer (some t)] 112)).alloc (.cells #[.pointer (some ⟨8,112,none⟩),.pointer (some ⟨w.heap.size,0,none⟩),.int .u64 150] 190):=⟨_,rfl⟩;have ha1:W1.cell? ⟨w.heap.size,0,none⟩=some (.pointer (some t)):=by rw[hW1];simp
 have n8:=Vc ⟨w.heap.size,0,none⟩ t W1 ha1;have hg2:W1.cell? ⟨0,0,none⟩=some (.iface 271 (.agg #[.pointer (some ⟨8,37,none⟩)])):=by rw[hW1];exact bW _ _ (bW _ _ hg)
 have HC:=Vf n ps (.iface T v) W1 ⟨w.heap.size,0,none⟩ t old (by rw[hW1];exact ErrV.mono bW (ErrV.mono bW hE)) ha1 (by rw[hW1];exact bW _ _ (bW _ _ ht0)) (by rw[hW1];exact fB (by simp;omega) (fB htl hf0));rw[hW1]at n8 hg2 HC;clear hE ha1 hW1 ht0 hf0 hlt htl;go_enter Tryz.func56,Tryz.ntmps56;go_wp2_with (go_at_call 119;refine HC.mono ?_;rintro e w' ⟨rfl,rfl⟩);go_ret;exact⟨rfl,rfl⟩
set_option maxHeartbeats 4000000 in
theorem As_pf(e0:Addr)(t:Addr)(old:Value)(w:World)(hg:w.cell? ⟨0,0,none⟩=some (.iface 271 (.agg #[.pointer (some ⟨8,37,none⟩)])))(ht0:w.cell? t=some old)(hf0:w.frozen? t=false) :
  Calls T_ 56 #[.iface 156 (.pointer (some e0)),.iface 199 (.pointer (some t))] w fun ev w'=>ev=.returned (.bool true)/\w'=((((w.alloc (.cells #[.pointer (some t)] 199)).alloc (.cells #[.pointer (some ⟨8,199,none⟩),.pointer (some ⟨w.heap.size,0,none⟩),.int .u64 150] 190)).alloc (.cells #[.pointer (some ⟨8,199,none⟩),.pointer (some ⟨w.heap.size,0,none⟩),.int .u64 150] 190)).alloc (.cells #[.pointer (some e0)] 156)).setCell t (.pointer (some e0)):=by
 have h6:=@run_callFunc_extern T_ 116 _ (fun args=>ReflectliteValue.unpack (args.getD 0 (.tuple #[]))) Tryz.func116 (by kernel_rfl) (by kernel_rfl) (by kernel_rfl) (by kernel_rfl);have h7:=@run_callFunc_extern T_ 117 _ (ReflectliteValue.methodAny (ReflectliteValue.valueError "reflectlite.Value.Type" 0) (fun t _ _ _=>ReflectliteType.toType t)) Tryz.func117 (by kernel_rfl) (by kernel_rfl) (by kernel_rfl) (by kernel_rfl);have h8:=@run_callFunc_extern T_ 118 _ (ReflectliteValue.method (ReflectliteValue.valueError "reflectlite.Value.IsNil" 0) ReflectliteValue.isNil) Tryz.func118 (by kernel_rfl) (by kernel_rfl) (by kernel_rfl) (by kernel_rfl);have h27:=@run_callFunc_extern T_ 405 _ (ReflectliteType.abiMethod fun t=>do pure (.int .u8 (<-Rtype.kind t))) Tryz.func405 (by kernel_rfl) (by kernel_rfl) (by kernel_rfl) (by kernel_rfl);have h37:=@run_callFunc_extern T_ 418 _ (ReflectliteType.method ReflectliteType.elem) Tryz.func418 (by kernel_rfl) (by kernel_rfl) (by kernel_rfl) (by kernel_rfl);have h38:=@run_callFunc_extern T_ 419 _ (ReflectliteType.relation "Implements" ReflectliteType.implements_) Tryz.func419 (by kernel_rfl) (by kernel_rfl) (by kernel_rfl) (by kernel_rfl);have f6:=XB;have f7:=XC;have mK:=Q7;have mE:=Q8;have mI:=Vb;have k1:=Uk;have k2:=Ul;have e1:=Um;have i1:=WB;have hlt:0<w.heap.size:=qU (a:=⟨0,0,none⟩) hg;have htl:t.block<w.heap.size:=qU ht0;obtain⟨W1,hW1⟩:∃W1,W1=(w.alloc (.cells #[.pointer (some t)] 199)).alloc (.cells #[.pointer (some ⟨8,199,none⟩),.pointer (some ⟨w.heap.size,0,none⟩),.int .u64 150] 190):=⟨_,rfl⟩;have ha1:W1.cell? ⟨w.heap.size,0,none⟩=some (.pointer (some t)):=by rw[hW1];simp
 have n8:=Qb ⟨w.heap.size,0,none⟩ t W1 ha1;have hg2:W1.cell? ⟨0,0,none⟩=some (.iface 271 (.agg #[.pointer (some ⟨8,37,none⟩)])):=by rw[hW1];exact bW _ _ (bW _ _ hg)
 have HC:=WC e0 ⟨w.heap.size,0,none⟩ t old W1 ha1 (by rw[hW1];exact bW _ _ (bW _ _ ht0)) (by rw[hW1];exact fB (by simp;omega) (fB htl hf0));rw[hW1]at n8 hg2 HC;clear ha1 hW1 ht0 hf0 hlt htl;go_enter Tryz.func56,Tryz.ntmps56;go_wp2_with (go_at_call 119;refine HC.mono ?_;rintro e w' ⟨rfl,rfl⟩);go_ret;exact⟨rfl,rfl⟩
set_option maxHeartbeats 4000000 in
theorem As_pf_no(n:Int)(t:Addr)(w:World)(hg:w.cell? ⟨0,0,none⟩=some (.iface 271 (.agg #[.pointer (some ⟨8,37,none⟩)]))) :
  Calls T_ 56 #[.iface 54 (.int .i64 n),.iface 199 (.pointer (some t))] w fun ev w'=>ev=.returned (.bool false)/\w'=((w.alloc (.cells #[.pointer (some t)] 199)).alloc (.cells #[.pointer (some ⟨8,199,none⟩),.pointer (some ⟨w.heap.size,0,none⟩),.int .u64 150] 190)).alloc (.cells #[.pointer (some ⟨8,199,none⟩),.pointer (some ⟨w.heap.size,0,none⟩),.int .u64 150] 190):=by
 have h6:=@run_callFunc_extern T_ 116 _ (fun args=>ReflectliteValue.unpack (args.getD 0 (.tuple #[]))) Tryz.func116 (by kernel_rfl) (by kernel_rfl) (by kernel_rfl) (by kernel_rfl);have h7:=@run_callFunc_extern T_ 117 _ (ReflectliteValue.methodAny (ReflectliteValue.valueError "reflectlite.Value.Type" 0) (fun t _ _ _=>ReflectliteType.toType t)) Tryz.func117 (by kernel_rfl) (by kernel_rfl) (by kernel_rfl) (by kernel_rfl);have h8:=@run_callFunc_extern T_ 118 _ (ReflectliteValue.method (ReflectliteValue.valueError "reflectlite.Value.IsNil" 0) ReflectliteValue.isNil) Tryz.func118 (by kernel_rfl) (by kernel_rfl) (by kernel_rfl) (by kernel_rfl);have h27:=@run_callFunc_extern T_ 405 _ (ReflectliteType.abiMethod fun t=>do pure (.int .u8 (<-Rtype.kind t))) Tryz.func405 (by kernel_rfl) (by kernel_rfl) (by kernel_rfl) (by kernel_rfl);have h37:=@run_callFunc_extern T_ 418 _ (ReflectliteType.method ReflectliteType.elem) Tryz.func418 (by kernel_rfl) (by kernel_rfl) (by kernel_rfl) (by kernel_rfl);have h38:=@run_callFunc_extern T_ 419 _ (ReflectliteType.relation "Implements" ReflectliteType.implements_) Tryz.func419 (by kernel_rfl) (by kernel_rfl) (by kernel_rfl) (by kernel_rfl);have f6:=XB;have f7:=XC;have mK:=Q7;have mE:=Q8;have mI:=Vb;have k1:=Uk;have k2:=Ul;have e1:=Um;have i1:=WB;have hlt:0<w.heap.size:=qU (a:=⟨0,0,none⟩) hg;obtain⟨W1,hW1⟩:∃W1,W1=(w.alloc (.cells #[.pointer (some t)] 199)).alloc (.cells #[.pointer (some ⟨8,199,none⟩),.pointer (some ⟨w.heap.size,0,none⟩),.int .u64 150] 190):=⟨_,rfl⟩;have ha1:W1.cell? ⟨w.heap.size,0,none⟩=some (.pointer (some t)):=by rw[hW1];simp
 have n8:=Qb ⟨w.heap.size,0,none⟩ t W1 ha1;have hg2:W1.cell? ⟨0,0,none⟩=some (.iface 271 (.agg #[.pointer (some ⟨8,37,none⟩)])):=by rw[hW1];exact bW _ _ (bW _ _ hg)
 have HC:=Qc n ⟨w.heap.size,0,none⟩ t W1;rw[hW1]at n8 hg2 HC;clear ha1 hW1 hlt;go_enter Tryz.func56,Tryz.ntmps56;go_wp2_with (go_at_call 119;refine HC.mono ?_;rintro e w' ⟨rfl,rfl⟩);go_ret;exact⟨rfl,rfl⟩
end Go.Vs.YtcjeehebikeghaaGreatDoor.E
namespace Go.Vs.YtcjeehebikeghaaGreatDoor
open Go.Proofs
def gY:VCode:=Q_ 4 [.K (.const (.val .nili))] (R_ 5 6 [.m 0,.g (.callM 272 [tm 5])] (R_ 7 16 [.m 0,.m 0,.k,.f 1,.l,.m 1,.g (.buildSlice 1 1 (z_ [.u]) [(0,1,tm 12)]),.g (.append 5 1 1 (tm 11) (tm 13)),.g (.nilCheck (tm 7)),.f 1,.T 1 16 14] (Q_ 4 [.K (.const (.val .nili))] .ret)))
theorem me:FnOk T_ 207 gY [.tmp 4] 17:=fK_ Tryz.func207
open Go.Proofs.YtcjeehebikeghaaGreatDoor Go.RowKit Go.Lib
def cS(n:Int):List Int->IV
 |[]=>.iface 54 (.int .i64 n)
 |p::ps=>.iface 156 (.ref [.int .i64 p,cS n ps])

theorem Md{w:World}{S:aO}{n:Int} : ∀ {ps:List Int} {v:Value},nJ w S (cS n ps) v->E.ErrV w n ps v
 |[],v,⟨u,h1,h2⟩=>by
  have h2:u=.int .i64 n:=h2;subst h2;exact h1
 |p::ps,v,⟨u,h1,blk,off,h2,_,_,⟨u0,h3,h4⟩,_,_,⟨u1,h5,h6⟩,_⟩=>by
  subst h2;subst h1;exact⟨blk,off,rfl,u1,h5,Md h6⟩
theorem Qd{w:World}{S:aO}(h:∀p,p∈G->gG w S p):w.cell? ⟨0,0,none⟩=some (.iface 271 (.agg #[.pointer (some ⟨8,37,none⟩)])):=by
 obtain⟨⟨_,_,⟨v,h1,h2⟩,_⟩,_⟩:=h (0,[.handle 271 8 37]) (by simp[G]);have h2:v=_:=h2;subst h2;exact h1
theorem Hc:qf T_ 56:=⟨Tryz.f56,Tryz.func56,by decide⟩
theorem CG(n m:Int)(ps:List Int):mP G T_ 56
  {args:=[.val (cS n ps),.ifc 112 (.loc 1000 0)],objs:=[(1000,.box [.val (.int .i64 m)])],res:=.val (.bool true),objs':=[(1000,.box [.val (.int .i64 n)])],ro':=[] }:=by
 refine uB (id:=1000) (cells:=[.val (.int .i64 m)]) (cells':=[.val (.int .i64 n)]) Hc rfl ?_;rintro w S μ β vs b cs e fr hgl ⟨E0,_,rfl,hE,_,_,rfl,⟨u,rfl,hu⟩,rfl⟩ hobj hinj hb hmu hheap hfr ⟨v0,_,hcs,_,hv0,hnil⟩;obtain⟨b',hb',rfl⟩:=hu _ rfl;rw[hmu]at hb';obtain rfl:b=b':=by simpa using hb'
 have hsz:cs.size=1:=by
  have:=congrArg List.length hcs;have hn:_=[]:=hnil;subst hn;simpa using this
 have hcell:w.cell? ⟨b,0,none⟩=some v0:=Ct hheap (by rw[<-Array.getElem?_toList,hcs];rfl);have hlt:b<w.heap.size:=(Array.getElem?_eq_some_iff.1 hheap).1;refine dp Tryz.func56 (by decide) ((E.As_eno n ps E0 ⟨b,0,none⟩ v0 w (Md hE) (Qd hgl) hcell (L3 hheap hfr (by omega))).mono ?_);rintro ev w' ⟨rfl,rfl⟩;refine⟨.bool true,_,cs.setIfInBounds 0 (.int .i64 n),rfl,?_,lV (off:=0) (e:=e) (fr:=fr) ?_ _,by simp,?_,rfl⟩
 ·exact((((Below.refl _ w).alloc (Nat.le_refl _) _).alloc (by simp) _).alloc (by simp;omega) _).alloc (by simp;omega) _
 ·rw[Below.heap_alloc _ _ _ (by simp;omega),Below.heap_alloc _ _ _ (by simp;omega),Below.heap_alloc _ _ _ (by simp;omega),Below.heap_alloc _ _ _ hlt];exact hheap
 ·obtain⟨l⟩:=cs;have hn:_=[]:=hnil;subst hn;simp only at hcs;subst hcs;exact⟨_,[],rfl,rfl,rfl,rfl⟩

theorem NN(m:IV)(cells:List IV):mP G T_ 56
  {args:=[.val (.iface 156 (.ref cells)),.ifc 199 (.loc 1000 0)],objs:=[(1000,.box [.val m])],res:=.val (.bool true),objs':=[(1000,.box [.val (.ref cells)])],ro':=[] }:=by
 refine uB (id:=1000) (cells:=[.val m]) (cells':=[.val (.ref cells)]) Hc rfl ?_;rintro w S μ β vs b cs e fr hgl ⟨E0,_,rfl,hE,_,_,rfl,⟨u,rfl,hu⟩,rfl⟩ hobj hinj hb hmu hheap hfr ⟨v0,_,hcs,_,hv0,hnil⟩;obtain⟨b',hb',rfl⟩:=hu _ rfl;rw[hmu]at hb';obtain rfl:b=b':=by simpa using hb'
 obtain⟨ep,rfl,blk,off,rfl,hcl⟩:=hE
 have hsz:cs.size=1:=by
  have:=congrArg List.length hcs;have hn:_=[]:=hnil;subst hn;simpa using this
 have hcell:w.cell? ⟨b,0,none⟩=some v0:=Ct hheap (by rw[<-Array.getElem?_toList,hcs];rfl);have hlt:b<w.heap.size:=(Array.getElem?_eq_some_iff.1 hheap).1;refine dp Tryz.func56 (by decide) ((E.As_pf ⟨blk,off,none⟩ ⟨b,0,none⟩ v0 w (Qd hgl) hcell (L3 hheap hfr (by omega))).mono ?_);rintro ev w' ⟨rfl,rfl⟩;refine⟨.bool true,_,cs.setIfInBounds 0 (.pointer (some ⟨blk,off,none⟩)),rfl,?_,lV (off:=0) (e:=e) (fr:=fr) ?_ _,by simp,?_,rfl⟩
 ·exact((((Below.refl _ w).alloc (Nat.le_refl _) _).alloc (by simp) _).alloc (by simp;omega) _).alloc (by simp;omega) _
 ·rw[Below.heap_alloc _ _ _ (by simp;omega),Below.heap_alloc _ _ _ (by simp;omega),Below.heap_alloc _ _ _ (by simp;omega),Below.heap_alloc _ _ _ hlt];exact hheap
 ·obtain⟨l⟩:=cs;have hn:_=[]:=hnil;subst hn;simp only at hcs;subst hcs;exact⟨_,[],rfl,rfl,⟨blk,off,rfl,hcl⟩,rfl⟩

theorem NO(n:Int)(m:IV):mP G T_ 56
  {args:=[.val (.iface 54 (.int .i64 n)),.ifc 199 (.loc 1000 0)],objs:=[(1000,.box [.val m])],res:=.val (.bool false),objs':=[(1000,.box [.val m])],ro':=[] }:=by
 refine uB (id:=1000) (cells:=[.val m]) (cells':=[.val m]) Hc rfl ?_;rintro w S μ β vs b cs e fr hgl ⟨E0,_,rfl,hE,_,_,rfl,⟨u,rfl,hu⟩,rfl⟩ hobj hinj hb hmu hheap hfr hc0;obtain⟨b',hb',rfl⟩:=hu _ rfl;rw[hmu]at hb';obtain rfl:b=b':=by simpa using hb'
 obtain⟨ep,rfl,h2⟩:=hE;have h2:ep=.int .i64 n:=h2;subst h2;have hlt:b<w.heap.size:=(Array.getElem?_eq_some_iff.1 hheap).1;refine dp Tryz.func56 (by decide) ((E.As_pf_no n ⟨b,0,none⟩ w (Qd hgl)).mono ?_);rintro ev w' ⟨rfl,rfl⟩;refine⟨.bool false,_,cs,rfl,(((Below.refl _ w).alloc (Nat.le_refl _) _).alloc (by simp) _).alloc (by simp;omega) _,⟨rfl,rfl,rfl,rfl,fun _ _=>rfl,?_,fun _ _ h=>h⟩,rfl,hc0,rfl⟩;rw[Below.heap_alloc _ _ _ (by simp;omega),Below.heap_alloc _ _ _ (by simp;omega),Below.heap_alloc _ _ _ hlt];exact hheap
theorem Qe:(T_.info? 309).map (·.size)=some 2:=by kernel_rfl
theorem Vg:liesAt T_ T_.depth 309 (2/T_.cellsOf 309) 0 309 1=true:=by kernel_rfl
theorem SW(b:Nat)(w:World)(h0:w.cell? ⟨b,0,none⟩=some (.pointer (some ⟨b,0,none⟩))) :
  Calls T_ 272 #[.pointer (some ⟨b,0,none⟩)] w fun e w'=>e=.returned (.tuple #[])/\w'=w:=by
 obtain⟨j,hj,_⟩:=Option.map_eq_some_iff.1 Qe;go_enter Tryz.func272,Tryz.ntmps272;go_wp2;rw[Lib.run_neq_ptr_same w _ Tryz.underlying307 hj];go_wp2;go_end0;exact⟨rfl,rfl⟩
theorem Qf(b:Nat)(w:World)(h0:w.cell? ⟨b,0,none⟩=some (.pointer none))(hsh:w.shape? b=some (309,2))(hfz:w.frozen? ⟨b,0,none⟩=false) :
  Calls T_ 272 #[.pointer (some ⟨b,0,none⟩)] w fun e w'=>e=.returned (.tuple #[])/\w'=w.setCell ⟨b,0,none⟩ (.pointer (some ⟨b,0,none⟩)):=by
 obtain⟨j,hj,hjs⟩:=Option.map_eq_some_iff.1 Qe;go_enter Tryz.func272,Tryz.ntmps272;go_wp2;rw[Lib.run_to_unsafe w ⟨b,0,none⟩ Tryz.underlying307 Tryz.underlying187 hj (by rw[hjs];decide) hsh (Nat.zero_lt_succ 1)];simp only[Result.andThen];rw[Oper.upon_value];go_wp2;rw[run_callFunc_extern Tryz.func318 (by kernel_rfl) (by kernel_rfl) (by kernel_rfl) (e:=Extern.AbiNoEscape.same) (by kernel_rfl)];rw[Lib.run_noEscape];simp only[Result.andThen];rw[Oper.upon_value];go_wp2;rw[Lib.run_from_unsafe w ⟨b,0,none⟩ Tryz.underlying187 Tryz.underlying307 hj hsh Vg];simp only[Result.andThen];rw[Oper.upon_value];go_wp2;go_end0;exact⟨rfl,rfl⟩

def gj(v:Nat)(l:List UInt8):List (Nat×Ob):=[(1000,.box [.selfN 1000 309 false,.ownT 1001 v 5]),(1001,.arr v 1 (ay l))]
theorem EG(v:Nat)(rows:List (List IV)):mP G T_ 272
  {args:=[.selfN 1000 309 true],objs:=[(1000,.box [.selfN 1000 309 false,.ownT 1001 v 5]),(1001,.arr v 1 rows)],res:=.val (.tuple []),
   objs':=[(1000,.box [.selfN 1000 309 false,.ownT 1001 v 5]),(1001,.arr v 1 rows)],ro':=[] }:=by
 refine uB (id:=1000) (cells:=[.selfN 1000 309 false,.ownT 1001 v 5]) (cells':=[.selfN 1000 309 false,.ownT 1001 v 5]) ⟨Tryz.f272,Tryz.func272,by decide⟩ rfl ?_;rintro w S μ β vs b cs e fr hgl ⟨u,_,rfl,hu,rfl⟩ hobj hinj hb hmu hheap hfr hc;have hc0:=hc;obtain⟨v0,_,hcs,_,hv0,v1,_,rfl,_,hv1,rfl⟩:=hc;obtain⟨b',hb',hsh,⟨h,_⟩|hu'⟩:=hu _ rfl
 ·cases h
 rw[hmu]at hb';obtain rfl:b=b':=by simpa using hb'
 subst hu';obtain⟨b',hb2,hsh2,hv0⟩:=hv0 _ rfl;rw[hmu]at hb2;obtain rfl:b=b':=by simpa using hb2
 have hcell:w.cell? ⟨b,0,none⟩=some v0:=Ct hheap (by rw[<-Array.getElem?_toList,hcs];rfl)
 have hsz:cs.size=2:=by
  have:=congrArg List.length hcs;simpa using this
 obtain⟨l⟩:=cs;simp only at hcs;subst hcs;rcases hv0 with⟨_,rfl⟩|rfl
 ·refine dp Tryz.func272 (by decide) ((Qf b w hcell hsh (L3 hheap hfr (by omega))).mono ?_);rintro ev w' ⟨rfl,rfl⟩;refine⟨.tuple #[],_,_,rfl,Below.refl _ _,lV (off:=0) (e:=e) (fr:=fr) hheap _,by simp,?_,⟨#[],rfl,rfl⟩⟩;exact⟨_,_,rfl,rfl,fun cells hl=>⟨b,hmu,hsh,.inr rfl⟩,_,_,rfl,by assumption,hv1,rfl⟩
 ·refine dp Tryz.func272 (by decide) ((SW b w hcell).mono ?_);rintro ev w' ⟨rfl,rfl⟩;exact⟨.tuple #[],_,_,rfl,Below.refl _ _,⟨rfl,rfl,rfl,rfl,fun _ _=>rfl,hheap,fun _ _ h=>h⟩,rfl,hc0,⟨#[],rfl,rfl⟩⟩

theorem B5(a b:List UInt8):ay (a++b)=ay a++ay b:=by simp[ay]
theorem px(a:List UInt8)(c:UInt8):ay (a++[c])=ay a++[[.int .u8 c.toNat]]:=by simp[ay]
theorem vh(v:Nat)(l:List UInt8)(c:UInt8)(hl:l.length<100000000):mP G T_ 207
  {args:=[.selfN 1000 309 true,.val (.int .u8 c.toNat)],objs:=gj v l,res:=.val .nili,objs':=gj (v+1) (l++[c]),ro':=[] }:=by
 refine bn hm me (by simp) rfl ?_;simp[gY,gj,nj];refine callM [] [] (EG v _) rfl rfl ⟨rfl,rfl,trivial⟩ ⟨rfl,rfl⟩ rfl ?_;simp;refine⟨by simp[ay];omega,?_⟩;simp[cn,px];exact⟨⟨[(4,.val .nili)],gj (v+1) (l++[c]),[],17,G⟩,(by simp only[gj,px];exact bQ),by simp[gj,px],[],rfl,rfl,rfl⟩
theorem NP:T_.cellsOf 5=1:=by kernel_rfl
theorem Qg(b g cap:Nat)(p:Value)(cur:Array Value)(l:List UInt8)(w:World)(h0:l≠[])(hbk:w.cell? ⟨b,1,none⟩=some (.slice (some ⟨g,0,none⟩) l.length cap))(hc0:l.length<=cap)(hg:w.heap[g]?=some (.cells cur 5 (0,0)))(hcs:cur.size=cap)(hsm:l.length<100000000)
  (hcell:∀j x,l[j]?=some x->w.cell? ((⟨g,0,none⟩:Addr).add j)=some (.int .u8 x.toNat)) :
  Calls T_ 208 #[.pointer (some ⟨b,0,none⟩)] w fun e w'=>e=.returned (.string ⟨l.toArray⟩)/\w'=w.drew.freeze ⟨g,0,none⟩ l.length:=by
 have hl0:l.length≠0:=by simpa using h0
 have c1:w.drew.cell? ⟨b,1,none⟩=some (.slice (some ⟨g,0,none⟩) l.length cap):=hbk
 have hSD:(Builtin.unsafeSliceData_ #[204] 365 #[.slice (some ⟨g,0,none⟩) l.length cap]).run T_ w.drew=.ok (.pointer (some ⟨g,0,none⟩)) w.drew:=
  Lib.run_unsafeSliceData_row _ _ _ _ _ _ (by omega)
 have hUS:(Builtin.unsafeString_ #[365,3] 9 #[.pointer (some ⟨g,0,none⟩),.int .i64 l.length]).run T_ w.drew=.ok (.string ⟨l.toArray⟩) (w.drew.freeze ⟨g,0,none⟩ l.length):=by
  refine Lib.run_unsafeString_row w.drew 365 3 9 5 Tryz.underlying365 NP g cur.size (by have hg':w.drew.heap[g]?=some (.cells cur 5 (0,0)):=hg;simp[World.shape?,hg']) l h0 (by omega) (by omega) ?_;intro j x hx;exact hcell j x hx
 clear hbk hg hcs hc0 hcell h0 hl0 hsm;go_enter Tryz.func208,Tryz.ntmps208;go_wp2;go_region
 all_goals (go_wp2;go_ret;exact⟨rfl,rfl⟩)
theorem Hd(W:World)(q:Option Addr):(Builtin.unsafeString_ #[365,3] 9 #[.pointer q,.int .i64 0]).run T_ W=.ok (.string .empty) W:=
 Lib.run_unsafeString_none W _ _ _ q
theorem SX(b:Nat)(w:World)(hbk:w.cell? ⟨b,1,none⟩=some (.slice none 0 0)) :
  Calls T_ 208 #[.pointer (some ⟨b,0,none⟩)] w fun e w'=>e=.returned (.string ⟨#[]⟩)/\w'=w.drew:=by
 have hUS:=Hd;have c1:w.drew.cell? ⟨b,1,none⟩=some (.slice none 0 0):=hbk;have hSD:(Builtin.unsafeSliceData_ #[204] 365 #[.slice none 0 0]).run T_ w.drew=.ok (.pointer none) w.drew:=rfl;clear hbk;go_enter Tryz.func208,Tryz.ntmps208;go_wp2;go_region
 all_goals (go_wp2;go_ret;exact⟨rfl,rfl⟩)
theorem Qh(b:Nat)(a:Addr)(cap:Nat)(hc0:cap≠0)(w:World)(hbk:w.cell? ⟨b,1,none⟩=some (.slice (some a) 0 cap)) :
  Calls T_ 208 #[.pointer (some ⟨b,0,none⟩)] w fun e w'=>e=.returned (.string ⟨#[]⟩)/\w'=w.drew:=by
 have hUS:=Hd;have c1:w.drew.cell? ⟨b,1,none⟩=some (.slice (some a) 0 cap):=hbk;have hSD:(Builtin.unsafeSliceData_ #[204] 365 #[.slice (some a) 0 cap]).run T_ w.drew=.ok (.pointer (some a)) w.drew:=Lib.run_unsafeSliceData_row _ _ _ _ _ _ hc0;clear hbk hc0;go_enter Tryz.func208,Tryz.ntmps208;go_wp2;go_region
 all_goals (go_wp2;go_ret;exact⟨rfl,rfl⟩)
theorem CH(b:Nat)(a:Addr)(m:Nat)(w:World)(hbk:w.cell? ⟨b,1,none⟩=some (.slice (some a) 0 0))(hsh:w.shape? a.block=some (5,m)) :
  Calls T_ 208 #[.pointer (some ⟨b,0,none⟩)] w fun e w'=>e=.returned (.string ⟨#[]⟩)/\w'=w.drew.alloc (.view a 5):=by
 have hUS:=Hd;have c1:w.drew.cell? ⟨b,1,none⟩=some (.slice (some a) 0 0):=hbk
 have hlt:b<w.heap.size:=by
  rcases Nat.lt_or_ge b w.heap.size with h'|h'
  ·exact h'
  ·simp[World.cell?,Array.getElem?_eq_none h']at hbk
 have hSD:(Builtin.unsafeSliceData_ #[204] 365 #[.slice (some a) 0 0]).run T_ w.drew=.ok (.pointer (some ⟨w.drew.heap.size,0,none⟩)) (w.drew.alloc (.view a 5)):=
  Lib.run_unsafeSliceData_zero w.drew _ _ 5 Tryz.underlying365 a 0 (5,m) hsh
 have c2:(w.alloc (.view a 5)).cell? ⟨b,1,none⟩=some (.slice (some a) 0 0):=by
  rw[World.cell?_of_block (a:=⟨b,1,none⟩) (Below.heap_alloc w _ b hlt)];exact hbk
 clear hbk hlt hsh;go_enter Tryz.func208,Tryz.ntmps208;go_wp2;go_region
 all_goals (go_wp2;go_ret;exact⟨rfl,rfl⟩)

theorem wR(v:Nat)(l:List UInt8)(hl:l.length<100000000):mP G T_ 208
  {args:=[.selfN 1000 309 true],objs:=gj v l,res:=.val (.str l),objs':=[(1000,.box [.selfN 1000 309 false,.ownT 1001 v 5]),(1001,.arr (v+1) 1 [])],ro':=[] }:=by
 refine⟨⟨Tryz.f208,Tryz.func208,by decide⟩,fun w S μ β vs hS hgl hrep hobj hinj hunst=>?_⟩;obtain⟨u,_,rfl,hu,rfl⟩:=hrep;obtain⟨b,cs,e,fr,hb,hmu,hheap,hfr,hc⟩:=hobj 1000 _ rfl;obtain⟨v0,_,hcs,h1c,hv0,v1,_,rfl,h2c,⟨hv1,hv1t⟩,rfl⟩:=hc;obtain⟨b',hb',hsh,⟨h,_⟩|hu'⟩:=hu _ rfl
 ·cases h
 rw[hmu]at hb';obtain rfl:b=b':=by simpa using hb'
 subst hu';have hvm:=(hv1 _ _ _ rfl).2 rfl;clear hv1;have hcell:w.cell? ⟨b,1,none⟩=some v1:=Ct hheap (by rw[<-Array.getElem?_toList,hcs];rfl);have hblt:b<w.heap.size:=(Array.getElem?_eq_some_iff.1 hheap).1
 have fin:∀w',w'.os=w.os->w'.tape=w.tape->w'.output=w.output->w.heap.size<=w'.heap.size->(∀k,k<w.heap.size->(∀g,β 1001=some g->k≠g)->w'.heap[k]?=w.heap[k]?)->(∀a,w'.cell? a=w.cell? a\/w.heap.size<=a.block)->(∀k x,w.shape? k=some x->w'.shape? k=some x)->
   ∃(v':Value) (S':aO) (μ':Nat->Value) (β':Nat->Option Nat),Ending.returned (Value.string ⟨l.toArray⟩)=.returned v'/\ar w' S' μ' [(1000,.box [.selfN 1000 309 false,.ownT 1001 v 5]),(1001,.arr (v+1) 1 [])] (.val (.str l)) v'/\
   (∀id o,ac [(1000,.box [.selfN 1000 309 false,.ownT 1001 v 5]),(1001,.arr (v+1) 1 [])] id=some o->bA w' S' μ' [(1000,.box [.selfN 1000 309 false,.ownT 1001 v 5]),(1001,.arr (v+1) 1 [])] (β' id) (μ' id) o)/\
   (∀id id' o o' b,ac [(1000,Ob.box [.selfN 1000 309 false,.ownT 1001 v 5]),(1001,.arr (v+1) 1 [])] id=some o->ac [(1000,Ob.box [.selfN 1000 309 false,.ownT 1001 v 5]),(1001,.arr (v+1) 1 [])] id'=some o'->β' id=some b->β' id'=some b->id=id')/\
   (∀id o b,ac [(1000,Ob.box [.selfN 1000 309 false,.ownT 1001 v 5]),(1001,.arr (v+1) 1 [])] id=some o->β' id=some b->w.heap.size<=b\/∃i x,ac (gj v l) i=some x/\β i=some b)/\
   (∀id o b off,ac [(1000,Ob.box [.selfN 1000 309 false,.ownT 1001 v 5]),(1001,.arr (v+1) 1 [])] id=some o->β' id=some b->S' b off->id∈([]:List Nat)/\∀ver s rows,o=.arr ver s rows->off<rows.length*s)/\
   (∀b o,S' b o->b<w'.heap.size)/\(∀b o,S b o->S' b o)/\(∀b o,S' b o->S b o\/w.heap.size<=b\/∃i x,ac (gj v l) i=some x/\β i=some b)/\
   Kept (fun b=>∃i x,ac (gj v l) i=some x/\β i=some b) w w'/\
   (∀id o,ac (gj v l) id=some o->ar w' S' μ' [(1000,.box [.selfN 1000 309 false,.ownT 1001 v 5]),(1001,.arr (v+1) 1 [])] (KH id o) (μ id))/\
   (∀b o,S b o->w'.cell? ⟨b,o,none⟩=w.cell? ⟨b,o,none⟩):=by
  intro w' q1 q2 q3 q4 q5 q6 q7
  have two:∀id (o:Ob),ac [(1000,Ob.box [.selfN 1000 309 false,.ownT 1001 v 5]),(1001,.arr (v+1) 1 [])] id=some o->(id=1000/\o=.box [.selfN 1000 309 false,.ownT 1001 v 5])\/(id=1001/\o=.arr (v+1) 1 []):=by
   intro id o ho;simp only[ac]at ho;cases h1:(1000:Nat)==id with
   |true=>rw[h1]at ho;left;exact⟨(by simpa using h1:1000=id).symm,(O_ ho).symm⟩
   |false=>
    rw[h1]at ho;cases h2:(1001:Nat)==id with
    |true=>rw[h2]at ho;right;exact⟨(by simpa using h2:1001=id).symm,(O_ ho).symm⟩
    |false=>rw[h2]at ho;simp at ho
  have hg1:∀g,β 1001=some g->b≠g:=fun g hg e1=>by
   have:=hinj 1000 1001 _ _ b rfl rfl hb (by rw[hg,e1]);cases this
  have hbox:w'.heap[b]?=some (.cells cs e fr):=(q5 b hblt hg1).trans hheap
  have hnew:∀x,ar w' S (fun i=>if i=1001 then .slice none 0 0 else μ i) [(1000,.box [.selfN 1000 309 false,.ownT 1001 v 5]),(1001,.arr (v+1) 1 [])] (.ownT 1001 v 5) x↔∀a n c,x=.slice (some a) n c->∃m,w'.shape? a.block=some (5,m):=by
   intro x;refine⟨fun h=>h.2,fun h=>⟨?_,h⟩⟩;intro cv s rows hl';obtain⟨rfl,rfl,rfl⟩:v+1=cv/\1=s/\[]=rows:=by simpa[ac]using hl'
   exact⟨by omega,fun e1=>by omega⟩
  refine⟨_,S,(fun i=>if i=1001 then .slice none 0 0 else μ i),(fun i=>if i=1001 then none else β i),rfl,rfl,?_,?_,?_,?_,fun b' o hS'=>Nat.lt_of_lt_of_le (hS b' o hS') q4,fun _ _ h=>h,fun _ _ h=>.inl h,?_,?_,fun b' o hS'=>(q6 ⟨b',o,none⟩).elim (fun h=>h) (fun h=>absurd (hS b' o hS') (Nat.not_lt.2 h))⟩
  ·intro id o ho;rcases two id o ho with⟨rfl,rfl⟩|⟨rfl,rfl⟩
   ·refine⟨b,cs,e,fr,hb,hmu,hbox,hfr,?_⟩;rw[hcs];refine⟨_,_,rfl,h1c,?_,_,_,rfl,h2c,?_,rfl⟩
    ·intro cells _;obtain⟨b2,hb2,hsh2,hv⟩:=hv0 _ rfl;exact⟨b2,hb2,q7 _ _ hsh2,hv⟩
    ·exact(hnew _).2 fun a n c hh=>let ⟨m,hm⟩:=hv1t a n c hh;⟨m,q7 _ _ hm⟩
   ·exact .inl ⟨rfl,rfl,none,rfl⟩
  ·intro id id' o o' b' h1 h2 h3 h4;rcases two id o h1 with⟨rfl,_⟩|⟨rfl,_⟩<;>rcases two id' o' h2 with⟨rfl,_⟩|⟨rfl,_⟩<;>first|rfl|(simp at h3;done)|(simp at h4;done)
  ·intro id o b' h1 h2;right;rcases two id o h1 with⟨rfl,_⟩|⟨rfl,_⟩
   ·exact⟨1000,_,rfl,by simpa using h2⟩
   ·simp at h2
  ·intro id o b' off h1 h2 h3;exfalso;rcases two id o h1 with⟨rfl,_⟩|⟨rfl,_⟩
   ·exact absurd (hunst 1000 _ b' off rfl (by simpa using h2) h3).1 (by simp)
   ·simp at h2
  ·exact⟨q1,q2,q3,q4,fun k hk hm=>q5 k hk (fun g hg e1=>hm ⟨1001,_,rfl,by rw[e1];exact hg⟩),q7⟩
  ·intro id o ho
   have ho':(id=1000/\o=.box [.selfN 1000 309 false,.ownT 1001 v 5])\/(id=1001/\o=.arr v 1 (ay l)):=by
    simp only[gj,ac]at ho;cases h1:(1000:Nat)==id with
    |true=>rw[h1]at ho;left;exact⟨(by simpa using h1:1000=id).symm,(O_ ho).symm⟩
    |false=>
     rw[h1]at ho;cases h2:(1001:Nat)==id with
     |true=>rw[h2]at ho;right;exact⟨(by simpa using h2:1001=id).symm,(O_ ho).symm⟩
     |false=>rw[h2]at ho;simp at ho
   rcases ho' with⟨rfl,rfl⟩|⟨rfl,rfl⟩
   ·intro cells _;exact⟨b,by simpa using hmu,hmu⟩
   ·intro cv s rows hl';obtain⟨rfl,rfl,rfl⟩:v+1=cv/\1=s/\[]=rows:=by simpa[ac]using hl'
    exact⟨by omega,fun e1=>by omega⟩
 have drewFin:l=[]->∃(v':Value),v'=Value.string ⟨#[]⟩:=fun _=>⟨_,rfl⟩
 rcases hobj 1001 _ rfl with⟨hr0,hβ,base,hmu1⟩|⟨g,cap,vs,e1,fr1,hβ,hmu1,hh1,hf1,hsz1,hle1,_,hrep1⟩
 ·have hl0:l=[]:=by simpa[ay]using hr0
  subst hl0;have hv1':v1=.slice base 0 0:=hvm.trans hmu1;subst hv1';cases base with
  |none=>
   refine dp Tryz.func208 (by decide) ((SX b w hcell).mono ?_);rintro ev w' ⟨rfl,rfl⟩;exact fin w.drew rfl rfl rfl (Nat.le_refl _) (fun _ _ _=>rfl) (fun _=>.inl rfl) (fun _ _ h=>h)
  |some a=>
   obtain⟨m,hm⟩:=hv1t a 0 0 rfl;refine dp Tryz.func208 (by decide) ((CH b a m w hcell hm).mono ?_);rintro ev w' ⟨rfl,rfl⟩
   exact fin (w.drew.alloc _) rfl rfl rfl (by simp) (fun k hk _=>Below.heap_alloc w.drew _ k hk) (fun a=>by
    rcases Nat.lt_or_ge a.block w.heap.size with h|h
    ·exact .inl (World.cell?_of_block (Below.heap_alloc w.drew _ a.block h))
    ·exact .inr h) (fun k x hx=>(cN (Below.heap_alloc w.drew _ k (nO hx))).trans hx)
 ·have hv1':v1=.slice (some ⟨g,0,none⟩) (ay l).length cap:=hvm.trans hmu1;subst hv1';have hlen:(ay l).length=l.length:=by simp[ay]
  obtain⟨m,hm⟩:=hv1t ⟨g,0,none⟩ _ _ rfl;simp only[World.shape?,hh1,E_,Prod.mk.injEq]at hm;obtain⟨rfl,rfl⟩:=hm;have hf1:fr1=(0,0):=hf1;subst hf1;rw[hlen]at hcell hle1 hrep1;have hglt:g<w.heap.size:=(Array.getElem?_eq_some_iff.1 hh1).1;by_cases hl0:l=[]
  ·subst hl0;by_cases hc0:cap=0
   ·subst hc0;refine dp Tryz.func208 (by decide) ((CH b ⟨g,0,none⟩ vs.size w hcell (by simp[World.shape?,hh1])).mono ?_);rintro ev w' ⟨rfl,rfl⟩
    exact fin (w.drew.alloc _) rfl rfl rfl (by simp) (fun k hk _=>Below.heap_alloc w.drew _ k hk) (fun a=>by
     rcases Nat.lt_or_ge a.block w.heap.size with h|h
     ·exact .inl (World.cell?_of_block (Below.heap_alloc w.drew _ a.block h))
     ·exact .inr h) (fun k x hx=>(cN (Below.heap_alloc w.drew _ k (nO hx))).trans hx)
   ·refine dp Tryz.func208 (by decide) ((Qh b ⟨g,0,none⟩ cap hc0 w hcell).mono ?_);rintro ev w' ⟨rfl,rfl⟩;exact fin w.drew rfl rfl rfl (Nat.le_refl _) (fun _ _ _=>rfl) (fun _=>.inl rfl) (fun _ _ h=>h)
  ·have hbytes:∀j x,l[j]?=some x->w.cell? ((⟨g,0,none⟩:Addr).add j)=some (.int .u8 x.toNat):=by
    intro j x hx;have hj:j<l.length:=(List.getElem?_eq_some_iff.1 hx).1
    have gen:∀(l:List UInt8) (us:List Value) (j:Nat) (x:UInt8),ae w S (ay l).flatten us->l[j]?=some x->us[j]?=some (.int .u8 x.toNat):=by
     intro l
     induction l with
     |nil=>intro us j x _ h;simp at h
     |cons y r ih=>
      rintro us j x ⟨u,us',rfl,_,hu,hr⟩ h;cases j with
      |zero=>
       simp only[List.getElem?_cons_zero,E_]at h;subst h;have hu:u=_:=hu;simp[hu]
      |succ j=>simpa using ih us' j x hr (by simpa using h)
    have:=gen l _ j x hrep1 hx;rw[Nat.mul_one,List.getElem?_take,if_pos hj,Array.getElem?_toList]at this;rw[Cq rfl];simpa using Ct hh1 this
   refine dp Tryz.func208 (by decide) ((Qg b g cap v0 vs l w hl0 hcell hle1 hh1 (by omega) hl hbytes).mono ?_);rintro ev w' ⟨rfl,rfl⟩;have hn0:¬l.length=0:=by simpa using hl0
   have hfz:∀k,k≠g->(w.drew.freeze ⟨g,0,none⟩ l.length).heap[k]?=w.heap[k]?:=by
    intro k hk;unfold World.freeze;rw[if_neg hn0];show(w.heap.modify g _)[k]?=_;rw[Array.getElem?_modify,if_neg (fun e=>hk e.symm)]
   have hfg:∃fr2,(w.drew.freeze ⟨g,0,none⟩ l.length).heap[g]?=some (.cells vs 5 fr2):=by
    unfold World.freeze;rw[if_neg hn0];show ∃fr2,(w.heap.modify g _)[g]?=_;rw[Array.getElem?_modify,if_pos rfl,hh1];exact⟨_,rfl⟩
   obtain⟨fr2,hfg⟩:=hfg
   have hos:(w.drew.freeze ⟨g,0,none⟩ l.length).os=w.os/\(w.drew.freeze ⟨g,0,none⟩ l.length).tape=w.tape/\(w.drew.freeze ⟨g,0,none⟩ l.length).output=w.output/\w.heap.size<=(w.drew.freeze ⟨g,0,none⟩ l.length).heap.size:=by
    unfold World.freeze;rw[if_neg hn0];refine⟨rfl,rfl,rfl,?_⟩;show _<=(w.heap.modify g _).size;simp
   refine fin (w.drew.freeze ⟨g,0,none⟩ l.length) hos.1 hos.2.1 hos.2.2.1 hos.2.2.2 (fun k _ h2=>hfz k (h2 g hβ)) (fun a=>.inl ?_) (fun k x hx=>?_)
   ·by_cases ha:a.block=g
    ·simp only[World.cell?,ha,hfg,hh1]
    ·exact World.cell?_of_block (hfz _ ha)
   ·by_cases hk:k=g
    ·subst hk;simp only[World.shape?,hfg,hh1]at hx |-;exact hx
    ·exact(cN (hfz k hk)).trans hx
end Go.Vs.YtcjeehebikeghaaGreatDoor
