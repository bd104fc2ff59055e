/- A part of a proof. No conditions. -/
import Derived.Lib.LaidTab
import Derived.Lib.LaidU8T
import Derived.PinnedBridge
import Derived.Test.YtcjeehebikeghaaGreatDoorRD
import Derived.Test.YtcjeehebikeghaaGreatDoorCards
import Derived.Test.YtcjeehebikeghaaGreatDoorTie
import Derived.SevenTiedAt
set_option linter.unusedVariables false
set_option linter.unusedSimpArgs false
set_option maxRecDepth 100000
namespace Go.Vs.YtcjeehebikeghaaGreatDoor
open Go.Proofs Go.Proofs.YtcjeehebikeghaaGreatDoor Go.RowKit Go.Lib
theorem repCells_of{w:World}{blk:Nat}(hb:blk<w.heap.size):∀(l:List IV) (off:Nat),(∀j x,l[j]?=some x->x.one=true/\∃v,w.cell? ⟨blk,off+j,none⟩=some v/\nJ w (Cp w) x v)->aH w (Cp w) l blk off
 |[],_,_=>trivial
 |x::r,off,h=>by
  obtain⟨h1,v,h2,h3⟩:=h 0 x rfl;refine⟨hb,h1,⟨v,h2,h3⟩,repCells_of hb r (off+1) fun j y hy=>?_⟩;have:=h (j+1) y (by simpa using hy)
  rwa[show off+(j+1)=off+1+j by omega]at this
theorem uw{P:Program}{W:World}{name:String}{k:IntKind}{zs:List Int}{g:Nat}{t e:TypeId}{n:Nat}
  (hg:P.globalNamed name=some g) (hty:(P.globals[g]?).map (·.type)=some t) (ht:P.underlying t=some (.array n e)) (he:P.underlying e=some (.int k)) (hce:P.cellsOf e=1) (hct:P.cellsOf t=n)
  (h:VarReads P W name (tabData k zs)):TabIs P W name k zs:=by
 obtain⟨g',t',cs,fuel,p,hg',ht',hvar,hd⟩:=h;obtain rfl:=O_ (hg.symm.trans hg');obtain rfl:=O_ (hty.symm.trans ht');unfold TabIs;rw[hvar,<-cells_of_tab ht he hce hct hd]
theorem nI{P:Program}{W:World}{name:String}{g:Nat}{cs:Array Value}(hg:P.globalNamed name=some g)(h:W.var? P name=some cs):∃t,W.shape? g=some (t,cs.size):=by
 unfold World.var? at h;rw[hg]at h;simp only[Option.bind_some]at h;split at h
 ·next cs' e fr hh=>
  obtain rfl:=O_ h;exact⟨e,by simp only[World.shape?,hh]⟩
 ·cases h
theorem GE{P:Program}{W:World}{name:String}{k:IntKind}{zs:List Int}{g:Nat}(hg:P.globalNamed name=some g)(h:TabIs P W name k zs):gG W (Cp W) (g,zs.map (.int k ·)):=by
 refine⟨v8 fun i hi=>by simpa using TabIs.cell h hg i hi,?_⟩;obtain⟨t,ht⟩:=nI hg h;exact⟨t,by simpa using ht⟩
def VW:Option TypeDesc->Bool
 |some (.array _ _)=>true
 |_=>false
theorem zb{P:Program}{W:World}{name:String}{d:DataW Unit}{g:Nat}{t:TypeId}{m:Nat}
  (hg:P.globalNamed name=some g) (hty:(P.globals[g]?).map (·.type)=some t) (ha:VW (P.underlying t)=true) (hct:P.cellsOf t=m) (h:VarReads P W name d):∃cs,W.var? P name=some cs/\cs.size=m:=by
 obtain⟨g',t',cs,fuel,p,hg',ht',hvar,hd⟩:=h;obtain rfl:=O_ (hg.symm.trans hg');obtain rfl:=O_ (hty.symm.trans ht');refine⟨cs,hvar,?_⟩;cases fuel with
 |zero=>simp[DataW.trod]at hd
 |succ fuel=>
  cases ht:P.underlying t with
  |none=>rw[ht]at ha;cases ha
  |some td=>
   cases td with
   |array n e=>
    simp only[DataW.trod,ht,hct]at hd;split at hd
    ·next hl=>simpa using hl
    ·cases hd
   |_=>rw[ht]at ha;cases ha
theorem zc{P:Program}{W:World}{l:List (String×DataW Unit)}(h:laidMet P l W){n:String}{d:DataW Unit}(hm:(n,d)∈l):VarReads P W n d:=laidMet.reads h hm
theorem VX:((List.range T_.types.size).filter fun t=>T_.rowNamed t [101,114,114,111,114])=[37]:=by kernel_rfl
theorem Y8:(T_.cutTypes.find? (·.1 == "internal/reflectlite.rtype")).map (·.2)=some 271:=by kernel_rfl
theorem VY{W:World}(h:handlesMet T_ [("errors.errorType",Rows.laid_errors_errorType)] W):gG W (Cp W) (0,[.handle 271 8 37]):=by
 have et:T_.globalNamed "errors.errorType" = some 0:=by kernel_rfl
 obtain⟨name,u,ty,e1,e2,e3,e4,e5⟩:=h _ (List.mem_singleton.2 rfl);have en:name=[101,114,114,111,114]:=(O_ e1).symm;subst en;obtain rfl:=O_ (Y8.symm.trans e2);have hm:ty∈(List.range T_.types.size).filter fun t=>T_.rowNamed t [101,114,114,111,114]:=List.mem_filter.2 ⟨List.mem_range.2 e3,e4⟩
 rw[VX]at hm;obtain rfl:=List.mem_singleton.1 hm;have hh:typeHandle T_ 37=.pointer (some ⟨8,37,none⟩):=by kernel_rfl
 rw[hh]at e5;have hc:W.cell? ⟨0,0,none⟩=some (.iface 271 (.agg #[.pointer (some ⟨8,37,none⟩)])):=by simpa using World.var?_cell et e5 0
 refine⟨repCells_of (qm hc).1 _ _ fun j x hx=>by
   cases j with
   |zero=>simp at hx;subst hx;exact⟨rfl,_,hc,rfl⟩
   |succ j=>simp at hx,?_⟩
 obtain⟨t,ht⟩:=nI et e5;exact⟨t,by simpa using ht⟩
theorem WY{l:List Int}{j:Nat}{x:IV}(h:(l.map (IV.int .u8 ·))[j]?=some x):j<l.length/\x=.int .u8 (l.getD j 0):=by
 rw[List.getElem?_map,Option.map_eq_some_iff]at h;obtain⟨z,hz,rfl⟩:=h;exact⟨(List.getElem?_eq_some_iff.1 hz).1,by rw[List.getD_eq_getElem?_getD,hz];rfl⟩
theorem VZ{W:World}(q1:VarReads T_ W "unicode/utf8.first" Rows.laid_unicode_utf8_first)(q2:VarReads T_ W "unicode/utf8.acceptRanges" Rows.laid_unicode_utf8_acceptRanges):gG W (Cp W) (3,wQ.map (.int .u8 ·))/\gG W (Cp W) (4,Lb.map (.int .u8 ·)):=by
 have r1:VarReads T_ W "unicode/utf8.first" firstData:=by
  have e:Rows.laid_unicode_utf8_first=firstData:=Pinned.utf8First_eq
  rwa[e]at q1
 have r2:VarReads T_ W "unicode/utf8.acceptRanges" acceptData:=by
  have e:Rows.laid_unicode_utf8_acceptRanges=acceptData:=by kernel_rfl
  rwa[e]at q2
 obtain⟨h1,h2⟩:=utf8Tabs_of_readsT (ρ:=Tryz.lays197_ren) ⟨by kernel_rfl,by kernel_rfl,by kernel_rfl,by kernel_rfl⟩ ⟨by kernel_rfl,by kernel_rfl,by kernel_rfl,by kernel_rfl,by kernel_rfl,by kernel_rfl,by kernel_rfl⟩ r1 r2;constructor
 ·refine⟨repCells_of (qm (h1 0 (by omega))).1 _ _ fun j x hx=>?_,?_⟩
  ·obtain⟨hj,rfl⟩:=WY hx;rw[zA]at hj;have ht:=List.all_eq_true.1 G3 j (List.mem_range.2 hj);rw[beq_iff_eq]at ht;exact⟨rfl,_,by rw[Nat.zero_add];exact h1 j hj,by rw[ht];rfl⟩
  ·obtain⟨cs,h3,h4⟩:=zb (g:=3) (t:=407) (m:=256) (by kernel_rfl) (by kernel_rfl) (by kernel_rfl) (by kernel_rfl) r1;obtain⟨t,ht⟩:=nI (g:=3) (by kernel_rfl) h3;exact⟨t,by rw[ht,h4];simp[zA]⟩
 ·refine⟨repCells_of (qm (h2 0 (by omega)).1).1 _ _ fun j x hx=>?_,?_⟩
  ·obtain⟨hj,rfl⟩:=WY hx;rw[Bx]at hj;have hi:j/2<16:=by omega
   have ht:=List.all_eq_true.1 Hf (j/2) (List.mem_range.2 hi);rw[Bool.and_eq_true,beq_iff_eq,beq_iff_eq]at ht;obtain⟨c1,c2⟩:=h2 (j/2) hi;have hj2:j=2*(j/2)\/j=2*(j/2)+1:=by omega
   obtain⟨i,mM⟩:∃i,j/2=i:=⟨_,rfl⟩;rw[mM]at ht c1 c2 hj2;rcases hj2 with e|e
   ·refine⟨rfl,_,by rw[Nat.zero_add,e];exact c1,?_⟩;rw[e,ht.1];rfl
   ·refine⟨rfl,_,by rw[Nat.zero_add,e];exact c2,?_⟩;rw[e,ht.2];rfl
  ·obtain⟨cs,h3,h4⟩:=zb (g:=4) (t:=410) (m:=32) (by kernel_rfl) (by kernel_rfl) (by kernel_rfl) (by kernel_rfl) r2;obtain⟨t,ht⟩:=nI (g:=4) (by kernel_rfl) h3;exact⟨t,by rw[ht,h4];simp[Bx]⟩
theorem W0{W:World}(q:VarReads T_ W "internal/strconv.uint64pow10" Rows.laid_internal_strconv_uint64pow10):gG W (Cp W) (2,Q6.map (.int .u64 ·)):=by
 have e:(Rows.laid_internal_strconv_uint64pow10:DataW Unit)=tabData .u64 Q6:=by kernel_rfl
 rw[e]at q;have hg:T_.globalNamed "internal/strconv.uint64pow10" = some 2:=by kernel_rfl
 exact GE hg (uw (t:=392) (e:=339) (n:=20) hg (by kernel_rfl) (by kernel_rfl) (by kernel_rfl) (by kernel_rfl) (by kernel_rfl) q)
def Xc:List (String×DataW Unit):=[("errand/civil.before",Rows.laid_errand_civil_before),("math/bits.deBruijn32tab",Rows.laid_math_bits_deBruijn32tab),("math/bits.deBruijn64tab",Rows.laid_math_bits_deBruijn64tab),("internal/strconv.uint64pow10",Rows.laid_internal_strconv_uint64pow10),("unicode/utf8.acceptRanges",Rows.laid_unicode_utf8_acceptRanges),("errors.errorType",Rows.laid_errors_errorType),("unicode/utf8.first",Rows.laid_unicode_utf8_first)]
theorem W7{W:World}(q:VarReads T_ W "errand/civil.before" Rows.laid_errand_civil_before):gG W (Cp W) (1,Lt.map (.int .i64 ·)):=by
 have e:(Rows.laid_errand_civil_before:DataW Unit)=tabData .i64 Lt:=by kernel_rfl
 rw[e]at q;have hg:T_.globalNamed "errand/civil.before" = some 1:=by kernel_rfl
 exact GE hg (uw (t:=337) (e:=3) (n:=13) hg (by kernel_rfl) (by kernel_rfl) (by kernel_rfl) (by kernel_rfl) (by kernel_rfl) q)
theorem Xy{W:World}(h:laidMetH T_ Xc W):∀p,p∈G2->gG W (Cp W) p:=by
 have h':laidMet T_ [("errand/civil.before",Rows.laid_errand_civil_before),("math/bits.deBruijn32tab",Rows.laid_math_bits_deBruijn32tab),("math/bits.deBruijn64tab",Rows.laid_math_bits_deBruijn64tab),("internal/strconv.uint64pow10",Rows.laid_internal_strconv_uint64pow10),("unicode/utf8.acceptRanges",Rows.laid_unicode_utf8_acceptRanges),("unicode/utf8.first",Rows.laid_unicode_utf8_first)] W/\handlesMet T_ [("errors.errorType",Rows.laid_errors_errorType)] W:=h;obtain⟨u1,u2⟩:=VZ (zc h'.1 (by simp)) (zc h'.1 (by simp));have p1:=W0 (zc h'.1 (by simp));have e1:=VY h'.2;have b1:=W7 (zc h'.1 (by simp));intro p hp;simp only[G2,G,List.mem_cons,List.not_mem_nil,or_false]at hp;rcases hp with rfl|rfl|rfl|rfl|rfl
 ·exact b1
 ·exact e1
 ·exact u1
 ·exact u2
 ·exact p1
end Go.Vs.YtcjeehebikeghaaGreatDoor
namespace Go.Vs.YtcjeehebikeghaaGreatDoor
open Go.Proofs Go.Proofs.YtcjeehebikeghaaGreatDoor Go.RowKit
def Kq:DataW Unit->List Int
 |.agg l=>l.map fun
  |.lit (.int _ z)=>z
  |_=>0
 |_=>[]
noncomputable def E9(os:Os):World:=
 let w0:=World.holding T_ os ⟨#[],#[],[]⟩
 {w0 with heap:=((((((w0.heap.modify 0 fun
   |.cells _ t frozen=>.cells #[.iface 271 (.agg #[.pointer (some ⟨8,37,none⟩)])] t frozen
   |o=>o).modify 3 fun
   |.cells _ t frozen=>.cells (wQ.map (Value.int .u8 ·)).toArray t frozen
   |o=>o).modify 4 fun
   |.cells _ t frozen=>.cells (Lb.map (Value.int .u8 ·)).toArray t frozen
   |o=>o).modify 2 fun
   |.cells _ t frozen=>.cells (Q6.map (Value.int .u64 ·)).toArray t frozen
   |o=>o).modify 6 fun
   |.cells _ t frozen=>.cells ((Kq Rows.laid_math_bits_deBruijn32tab).map (Value.int .u8 ·)).toArray t frozen
   |o=>o).modify 1 fun
   |.cells _ t frozen=>.cells (Lt.map (Value.int .i64 ·)).toArray t frozen
   |o=>o).modify 7 fun
   |.cells _ t frozen=>.cells ((Kq Rows.laid_math_bits_deBruijn64tab).map (Value.int .u8 ·)).toArray t frozen
   |o=>o }
theorem Ea(os:Os)(args:Array Value):laidMetH T_ Xc ((E9 os).forCall (fun _ _=>0) ⟨#[],args,[]⟩).memory:=
 laidMetH_of_parts (laidMet_of_run' 8 (by kernel_rfl) (by kernel_rfl)) (by kernel_rfl)
theorem OL:ownKnob T_.godebug=none:=by kernel_rfl
theorem OM:laidOutB T_=true:=by kernel_rfl
end Go.Vs.YtcjeehebikeghaaGreatDoor
