/- A part of a proof. No conditions. -/
import Derived.Lib.LaidTab
import Derived.Lib.LaidU8T
import Derived.PinnedBridge
import Derived.Test.YtnhbiolfmeeniaaGreatDoorRDz
import Derived.Test.YtnhbiolfmeeniaaGreatDoorCards
import Derived.Test.YtnhbiolfmeeniaaGreatDoorTie
import Derived.SevenTiedAt
set_option linter.all false
set_option maxRecDepth 100000
namespace Go.Vs.Y
open Go.Proofs Go.Proofs.YtnhbiolfmeeniaaGreatDoor Go.RowKit Go.Lib
theorem repCells_of{w:World}{blk:Nat}(a:blk<w.heap.size):∀(l:List IV) (off:Nat),(∀j x,l[j]?=some x->x.one=true/\∃v,w.cell? ⟨blk,off+j,none⟩=some v/\sI w (Kb w) x v)->aQ w (Kb w) l blk off
 |[],_,_=>trivial
 |x::r,off,h=>by
  obtain⟨b,v,c,d⟩:=h 0 x rfl;refine⟨a,b,⟨v,c,d⟩,repCells_of a r (off+1) fun j y f=>?_⟩;have:=h (j+1) y (by simpa using f)
  rwa[show off+(j+1)=off+1+j by omega]at this
theorem Ae{P:Program}{W:World}{a:String}{k:IntKind}{zs:List Int}{g:Nat}{t e:TypeId}{n:Nat}
  (m:P.globalNamed a=some g) (c:(P.globals[g]?).map (·.type)=some t) (o:P.underlying t=some (.array n e)) (q:P.underlying e=some (.int k)) (d:P.cellsOf e=1) (f:P.cellsOf t=n)
  (h:VarReads P W a (tabData k zs)):TabIs P W a k zs:=by
 obtain⟨u,v,cs,l,p,i,j,b,s⟩:=h;obtain rfl:=O_ (m.symm.trans i);obtain rfl:=O_ (c.symm.trans j);unfold TabIs;rw[b,<-cells_of_tab o q d f s]
theorem sn{P:Program}{W:World}{a:String}{g:Nat}{cs:Array Value}(b:P.globalNamed a=some g)(h:W.var? P a=some cs):∃t,W.shape? g=some (t,cs.size):=by
 unfold World.var? at h;rw[b]at h;simp only[Option.bind_some]at h;split at h
 .next c e f d=>
  obtain rfl:=O_ h;exact⟨e,by simp only[World.shape?,d]⟩
 cases h
theorem PH{P:Program}{W:World}{a:String}{k:IntKind}{zs:List Int}{g:Nat}(b:P.globalNamed a=some g)(h:TabIs P W a k zs):jt W (Kb W) (g,zs.map (.int k ·)):=by
 refine⟨Bl fun i c=>by simpa using TabIs.cell h b i c,?_⟩;obtain⟨t,d⟩:=sn b h;exact⟨t,by simpa using d⟩
def ait:Option TypeDesc->Bool
 |some (.array _ _)=>true
 |_=>false
theorem Fy{P:Program}{W:World}{a:String}{d:DataW Unit}{g:Nat}{t:TypeId}{m:Nat}
  (s:P.globalNamed a=some g) (j:(P.globals[g]?).map (·.type)=some t) (f:ait (P.underlying t)=true) (k:P.cellsOf t=m) (h:VarReads P W a d):∃cs,W.var? P a=some cs/\cs.size=m:=by
 obtain⟨w,x,cs,b,p,l,o,c,i⟩:=h;obtain rfl:=O_ (s.symm.trans l);obtain rfl:=O_ (j.symm.trans o);refine⟨cs,c,?_⟩;cases b with
 |zero=>simp[DataW.trod]at i
 |succ b=>
  cases q:P.underlying t with
  |none=>rw[q]at f;cases f
  |some u=>
   cases u with
   |array n e=>
    simp only[DataW.trod,q,k]at i;split at i
    .next v=>simpa using v
    cases i
   |_=>rw[q]at f;cases f
theorem Fz{P:Program}{W:World}{l:List (String×DataW Unit)}(h:laidMet P l W){n:String}{d:DataW Unit}(hm:(n,d)∈l):VarReads P W n d:=laidMet.reads h hm
theorem aiu:((List.range T_.types.size).filter fun t=>T_.rowNamed t [101,114,114,111,114])=[40]:=by kernel_rfl
theorem rtN:(T_.cutTypes.find? (·.1 == "internal/reflectlite.rtype")).map (·.2)=some 208:=by kernel_rfl
theorem aiv{W:World}(h:handlesMet T_ [("errors.errorType",Rows.laid_errors_errorType)] W):jt W (Kb W) (0,[.handle 208 8 40]):=by
 have c:T_.globalNamed "errors.errorType" = some 0:=by kernel_rfl
 obtain⟨a,u,e,e1,e2,f,e4,e5⟩:=h _ (List.mem_singleton.2 rfl);have g:a=[101,114,114,111,114]:=(O_ e1).symm;subst g;obtain rfl:=O_ (rtN.symm.trans e2);have hm:e∈(List.range T_.types.size).filter fun t=>T_.rowNamed t [101,114,114,111,114]:=List.mem_filter.2 ⟨List.mem_range.2 f,e4⟩
 rw[aiu]at hm;obtain rfl:=List.mem_singleton.1 hm;have i:typeHandle T_ 40=.pointer (some ⟨8,40,none⟩):=by kernel_rfl
 rw[i]at e5;have d:W.cell? ⟨0,0,none⟩=some (.iface 208 (.agg #[.pointer (some ⟨8,40,none⟩)])):=by simpa using World.var?_cell c e5 0
 refine⟨repCells_of (sZ d).1 _ _ fun j x b=>by
   cases j with
   |zero=>simp at b;subst b;exact⟨rfl,_,d,rfl⟩
   |succ j=>simp at b,?_⟩
 obtain⟨t,k⟩:=sn c e5;exact⟨t,by simpa using k⟩
theorem ajy{l:List Int}{j:Nat}{x:IV}(h:(l.map (IV.int .u8 ·))[j]?=some x):j<l.length/\x=.int .u8 (l.getD j 0):=by
 rw[List.getElem?_map,Option.map_eq_some_iff]at h;obtain⟨z,a,rfl⟩:=h;exact⟨(List.getElem?_eq_some_iff.1 a).1,by rw[List.getD_eq_getElem?_getD,a];rfl⟩
theorem aiw{W:World}(u:VarReads T_ W "unicode/utf8.first" Rows.laid_unicode_utf8_first)(v:VarReads T_ W "unicode/utf8.acceptRanges" Rows.laid_unicode_utf8_acceptRanges):jt W (Kb W) (3,D6.map (.int .u8 ·))/\jt W (Kb W) (4,VI.map (.int .u8 ·)):=by
 have k:VarReads T_ W "unicode/utf8.first" firstData:=by
  have e:Rows.laid_unicode_utf8_first=firstData:=Pinned.utf8First_eq
  rwa[e]at u
 have l:VarReads T_ W "unicode/utf8.acceptRanges" acceptData:=by
  have e:Rows.laid_unicode_utf8_acceptRanges=acceptData:=by kernel_rfl
  rwa[e]at v
 obtain⟨n,o⟩:=utf8Tabs_of_readsT (ρ:=Tryz.lays197_ren) ⟨by kernel_rfl,by kernel_rfl,by kernel_rfl,by kernel_rfl⟩ ⟨by kernel_rfl,by kernel_rfl,by kernel_rfl,by kernel_rfl,by kernel_rfl,by kernel_rfl,by kernel_rfl⟩ k l;constructor
 .refine⟨repCells_of (sZ (n 0 (by omega))).1 _ _ fun j x d=>?_,?_⟩
  .obtain⟨b,rfl⟩:=ajy d;rw[Gp]at b;have a:=List.all_eq_true.1 P5 j (List.mem_range.2 b);rw[beq_iff_eq]at a;exact⟨rfl,_,by rw[Nat.zero_add];exact n j b,by rw[a];rfl⟩
  obtain⟨cs,f,h⟩:=Fy (g:=3) (t:=320) (m:=256) (by kernel_rfl) (by kernel_rfl) (by kernel_rfl) (by kernel_rfl) k;obtain⟨t,a⟩:=sn (g:=3) (by kernel_rfl) f;exact⟨t,by rw[a,h];simp[Gp]⟩
 refine⟨repCells_of (sZ (o 0 (by omega)).1).1 _ _ fun j x d=>?_,?_⟩
 .obtain⟨b,rfl⟩:=ajy d;rw[J7]at b;have p:j/2<16:=by omega
  have a:=List.all_eq_true.1 Qy (j/2) (List.mem_range.2 p);rw[Bool.and_eq_true,beq_iff_eq,beq_iff_eq]at a;obtain⟨q,s⟩:=o (j/2) p;have c:j=2*(j/2)\/j=2*(j/2)+1:=by omega
  obtain⟨i,rh⟩:=A_ (j/2);rw[rh]at a q s c;rcases c with e|e
  .refine⟨rfl,_,by rw[Nat.zero_add,e];exact q,?_⟩;rw[e,a.1];rfl
  refine⟨rfl,_,by rw[Nat.zero_add,e];exact s,?_⟩;rw[e,a.2];rfl
 obtain⟨cs,f,h⟩:=Fy (g:=4) (t:=323) (m:=32) (by kernel_rfl) (by kernel_rfl) (by kernel_rfl) (by kernel_rfl) l;obtain⟨t,a⟩:=sn (g:=4) (by kernel_rfl) f;exact⟨t,by rw[a,h];simp[J7]⟩
theorem aix{W:World}(q:VarReads T_ W "internal/strconv.uint64pow10" Rows.laid_internal_strconv_uint64pow10):jt W (Kb W) (2,abJ.map (.int .u64 ·)):=by
 have e:(Rows.laid_internal_strconv_uint64pow10:DataW Unit)=tabData .u64 abJ:=by kernel_rfl
 rw[e]at q;have a:T_.globalNamed "internal/strconv.uint64pow10" = some 2:=by kernel_rfl
 exact PH a (Ae (t:=315) (e:=23) (n:=20) a (by kernel_rfl) (by kernel_rfl) (by kernel_rfl) (by kernel_rfl) (by kernel_rfl) q)
def LaR:List (String×DataW Unit):=[("errand/civil.before",Rows.laid_errand_civil_before),("math/bits.deBruijn32tab",Rows.laid_math_bits_deBruijn32tab),("math/bits.deBruijn64tab",Rows.laid_math_bits_deBruijn64tab),("internal/strconv.uint64pow10",Rows.laid_internal_strconv_uint64pow10),("unicode/utf8.acceptRanges",Rows.laid_unicode_utf8_acceptRanges),("errors.errorType",Rows.laid_errors_errorType),("unicode/utf8.first",Rows.laid_unicode_utf8_first)]
theorem aiy{W:World}(q:VarReads T_ W "errand/civil.before" Rows.laid_errand_civil_before):jt W (Kb W) (1,Wh.map (.int .i64 ·)):=by
 have e:(Rows.laid_errand_civil_before:DataW Unit)=tabData .i64 Wh:=by kernel_rfl
 rw[e]at q;have a:T_.globalNamed "errand/civil.before" = some 1:=by kernel_rfl
 exact PH a (Ae (t:=255) (e:=3) (n:=13) a (by kernel_rfl) (by kernel_rfl) (by kernel_rfl) (by kernel_rfl) (by kernel_rfl) q)
theorem akg{W:World}(h:laidMetH T_ LaR W):∀p,p∈G2->jt W (Kb W) p:=by
 have a:laidMet T_ [("errand/civil.before",Rows.laid_errand_civil_before),("math/bits.deBruijn32tab",Rows.laid_math_bits_deBruijn32tab),("math/bits.deBruijn64tab",Rows.laid_math_bits_deBruijn64tab),("internal/strconv.uint64pow10",Rows.laid_internal_strconv_uint64pow10),("unicode/utf8.acceptRanges",Rows.laid_unicode_utf8_acceptRanges),("unicode/utf8.first",Rows.laid_unicode_utf8_first)] W/\handlesMet T_ [("errors.errorType",Rows.laid_errors_errorType)] W:=h;obtain⟨u1,u2⟩:=aiw (Fz a.1 (by simp)) (Fz a.1 (by simp));have c:=aix (Fz a.1 (by simp));have e1:=aiv a.2;have d:=aiy (Fz a.1 (by simp));intro p b;simp only[G2,G,List.mem_cons,List.not_mem_nil,or_false]at b;rcases b with rfl|rfl|rfl|rfl|rfl
 .exact d
 .exact e1
 .exact u1
 .exact u2
 exact c
end Go.Vs.Y
namespace Go.Vs.Y
open Go.Proofs Go.Proofs.YtnhbiolfmeeniaaGreatDoor Go.RowKit
def Uo:DataW Unit->List Int
 |.agg l=>l.map fun
  |.lit (.int _ z)=>z
  |_=>0
 |_=>[]
noncomputable def M4(os:Os):World:=
 let w0:=World.holding T_ os ⟨#[],#[],[]⟩
 {w0 with heap:=((((((w0.heap.modify 0 fun
   |.cells _ t frozen=>.cells #[.iface 208 (.agg #[.pointer (some ⟨8,40,none⟩)])] t frozen
   |o=>o).modify 3 fun
   |.cells _ t frozen=>.cells (D6.map (Value.int .u8 ·)).toArray t frozen
   |o=>o).modify 4 fun
   |.cells _ t frozen=>.cells (VI.map (Value.int .u8 ·)).toArray t frozen
   |o=>o).modify 2 fun
   |.cells _ t frozen=>.cells (abJ.map (Value.int .u64 ·)).toArray t frozen
   |o=>o).modify 6 fun
   |.cells _ t frozen=>.cells ((Uo Rows.laid_math_bits_deBruijn32tab).map (Value.int .u8 ·)).toArray t frozen
   |o=>o).modify 1 fun
   |.cells _ t frozen=>.cells (Wh.map (Value.int .i64 ·)).toArray t frozen
   |o=>o).modify 7 fun
   |.cells _ t frozen=>.cells ((Uo Rows.laid_math_bits_deBruijn64tab).map (Value.int .u8 ·)).toArray t frozen
   |o=>o }
theorem M6(os:Os)(a:Array Value):laidMetH T_ LaR ((M4 os).forCall (fun _ _=>0) ⟨#[],a,[]⟩).memory:=
 laidMetH_of_parts (laidMet_of_run' 8 (by kernel_rfl) (by kernel_rfl)) (by kernel_rfl)
theorem aae:ownKnob T_.godebug=none:=by kernel_rfl
theorem aaf:laidOutB T_=true:=by kernel_rfl
end Go.Vs.Y
