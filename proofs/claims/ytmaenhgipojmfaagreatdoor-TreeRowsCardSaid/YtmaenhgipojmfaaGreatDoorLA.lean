/- The known globals from the condition 'laid'. No conditions. -/
import Derived.Test.YtmaenhgipojmfaaGreatDoorBH
import Derived.Test.YtmaenhgipojmfaaGreatDoorBD
import Derived.Lib.LaidTab
import Derived.Lib.LaidU8T
import Derived.PinnedBridge
import Derived.LaidHandle
set_option linter.unusedVariables false
set_option linter.unusedSimpArgs false
set_option maxRecDepth 100000
namespace Go.Vs.YtmaenhgipojmfaaGreatDoor
open Go.Proofs Go.Proofs.YtmaenhgipojmfaaGreatDoor Go.RowKit Go.Lib
theorem repCells_of {w:World} {blk:Nat} (hb:blk < w.heap.size):∀ (l:List IV) (off:Nat),(∀ j x,l[j]?=some x→x.one=true∧∃ v,w.cell? ⟨blk,off+j,none⟩=some v∧jq w (C9 w) x v)→ar w (C9 w) l blk off
 | [],_,_=>trivial
 | x::r,off,h=>by
  obtain ⟨h1,v,h2,h3⟩:=h 0 x rfl
  refine ⟨hb,h1,⟨v,h2,h3⟩,repCells_of hb r (off+1) fun j y hy=>?_⟩
  have:=h (j+1) y (by simpa using hy)
  rwa[show off+(j+1)=off+1+j by omega] at this
theorem nT {P:Program} {W:World} {name:String} {g:Nat} {cs:Array Value} (hg:P.globalNamed name=some g) (h:W.var? P name=some cs):∃ t,W.shape? g=some (t,cs.size):=by
 unfold World.var? at h
 rw[hg] at h
 simp only[Option.bind_some] at h
 split at h
 ·next cs' e fr hh=>
  obtain rfl:=Option.some.inj h
  exact ⟨e,by simp only[World.shape?,hh]⟩
 ·cases h
def Nq:Option TypeDesc→Bool
 | some (.array _ _)=>true
 | _=>false
theorem uM {P:Program} {W:World} {name:String} {d:DataW Unit} {g:Nat} {t:TypeId} {m:Nat}
  (hg:P.globalNamed name=some g) (hty:(P.globals[g]?).map (·.type)=some t) (ha:Nq (P.underlying t)=true) (hct:P.cellsOf t=m) (h:VarReads P W name d):∃ cs,W.var? P name=some cs∧cs.size=m:=by
 obtain ⟨g',t',cs,fuel,p,hg',ht',hvar,hd⟩:=h
 obtain rfl:=Option.some.inj (hg.symm.trans hg')
 obtain rfl:=Option.some.inj (hty.symm.trans ht')
 refine ⟨cs,hvar,?_⟩
 cases fuel with
 | zero=>simp[DataW.trod] at hd
 | succ fuel=>
  cases ht:P.underlying t with
  | none=>rw[ht] at ha;cases ha
  | some td=>
   cases td with
   | array n e=>
    simp only[DataW.trod,ht,hct] at hd
    split at hd
    ·next hl=>simpa using hl
    ·cases hd
   | _=>rw[ht] at ha;cases ha
theorem ER {P:Program} {W:World} {l:List (String×DataW Unit)} (h:laidMet P l W) {n:String} {d:DataW Unit} (hm:(n,d)∈l):VarReads P W n d:=laidMet.reads h hm
theorem Nr:((List.range Tryz.prog.types.size).filter fun t=>Tryz.prog.rowNamed t [101,114,114,111,114])=[25]:=by kernel_rfl
theorem OC:(Tryz.prog.cutTypes.find? (·.1 == "internal/reflectlite.rtype")).map (·.2)=some 161:=by kernel_rfl
theorem Ns {W:World} (h:handlesMet Tryz.prog [("errors.errorType",Rows.laid_errors_errorType)] W):fG W (C9 W) (0,[.handle 161 4 25]):=by
 have et:Tryz.prog.globalNamed "errors.errorType" = some 0:=by kernel_rfl
 obtain ⟨name,u,ty,e1,e2,e3,e4,e5⟩:=h _ (List.mem_singleton.2 rfl)
 have en:name=[101,114,114,111,114]:=(Option.some.inj e1).symm
 subst en
 obtain rfl:=Option.some.inj (OC.symm.trans e2)
 have hm:ty∈(List.range Tryz.prog.types.size).filter fun t=>Tryz.prog.rowNamed t [101,114,114,111,114]:=List.mem_filter.2 ⟨List.mem_range.2 e3,e4⟩
 rw[Nr] at hm
 obtain rfl:=List.mem_singleton.1 hm
 have hh:typeHandle Tryz.prog 25=.pointer (some ⟨4,25,none⟩):=by kernel_rfl
 rw[hh] at e5
 have hc:W.cell? ⟨0,0,none⟩=some (.iface 161 (.agg #[.pointer (some ⟨4,25,none⟩)])):=by simpa using World.var?_cell et e5 0
 refine ⟨repCells_of (m0 hc).1 _ _ fun j x hx=>by
   cases j with
   | zero=>simp at hx;subst hx;exact ⟨rfl,_,hc,rfl⟩
   | succ j=>simp at hx,?_⟩
 obtain ⟨t,ht⟩:=nT et e5
 exact ⟨t,by simpa using ht⟩
theorem NX {l:List Int} {j:Nat} {x:IV} (h:(l.map (IV.int .u8 ·))[j]?=some x):j < l.length∧x=.int .u8 (l.getD j 0):=by
 rw[List.getElem?_map,Option.map_eq_some_iff] at h
 obtain ⟨z,hz,rfl⟩:=h
 exact ⟨(List.getElem?_eq_some_iff.1 hz).1,by rw[List.getD_eq_getElem?_getD,hz];rfl⟩
theorem Nt {W:World} (q1:VarReads Tryz.prog W "unicode/utf8.first" Rows.laid_unicode_utf8_first) (q2:VarReads Tryz.prog W "unicode/utf8.acceptRanges" Rows.laid_unicode_utf8_acceptRanges):fG W (C9 W) (2,sb.map (.int .u8 ·))∧fG W (C9 W) (3,FF.map (.int .u8 ·)):=by
 have r1:VarReads Tryz.prog W "unicode/utf8.first" firstData:=by
  have e:Rows.laid_unicode_utf8_first=firstData:=Pinned.utf8First_eq
  rwa[e] at q1
 have r2:VarReads Tryz.prog W "unicode/utf8.acceptRanges" acceptData:=by
  have e:Rows.laid_unicode_utf8_acceptRanges=acceptData:=by kernel_rfl
  rwa[e] at q2
 obtain ⟨h1,h2⟩:=utf8Tabs_of_readsT (ρ:=Tryz.lays197_ren) ⟨by kernel_rfl,by kernel_rfl,by kernel_rfl,by kernel_rfl⟩ ⟨by kernel_rfl,by kernel_rfl,by kernel_rfl,by kernel_rfl,by kernel_rfl,by kernel_rfl,by kernel_rfl⟩ r1 r2
 constructor
 ·refine ⟨repCells_of (m0 (h1 0 (by omega))).1 _ _ fun j x hx=>?_,?_⟩
  ·obtain ⟨hj,rfl⟩:=NX hx
   rw[v6] at hj
   have ht:=List.all_eq_true.1 AY j (List.mem_range.2 hj)
   rw[beq_iff_eq] at ht
   exact ⟨rfl,_,by rw[Nat.zero_add];exact h1 j hj,by rw[ht];rfl⟩
  ·obtain ⟨cs,h3,h4⟩:=uM (g:=2) (t:=213) (m:=256) (by kernel_rfl) (by kernel_rfl) (by kernel_rfl) (by kernel_rfl) r1
   obtain ⟨t,ht⟩:=nT (g:=2) (by kernel_rfl) h3
   exact ⟨t,by rw[ht,h4];simp[v6]⟩
 ·refine ⟨repCells_of (m0 (h2 0 (by omega)).1).1 _ _ fun j x hx=>?_,?_⟩
  ·obtain ⟨hj,rfl⟩:=NX hx
   rw[wV] at hj
   have hi:j / 2 < 16:=by omega
   have ht:=List.all_eq_true.1 Cd (j / 2) (List.mem_range.2 hi)
   rw[Bool.and_eq_true,beq_iff_eq,beq_iff_eq] at ht
   obtain ⟨c1,c2⟩:=h2 (j / 2) hi
   have hj2:j=2*(j / 2)∨j=2*(j / 2)+1:=by omega
   obtain ⟨i,hi'⟩:∃ i,j / 2=i:=⟨_,rfl⟩
   rw[hi'] at ht c1 c2 hj2
   rcases hj2 with e | e
   ·refine ⟨rfl,_,by rw[Nat.zero_add,e];exact c1,?_⟩
    rw[e,ht.1];rfl
   ·refine ⟨rfl,_,by rw[Nat.zero_add,e];exact c2,?_⟩
    rw[e,ht.2];rfl
  ·obtain ⟨cs,h3,h4⟩:=uM (g:=3) (t:=217) (m:=32) (by kernel_rfl) (by kernel_rfl) (by kernel_rfl) (by kernel_rfl) r2
   obtain ⟨t,ht⟩:=nT (g:=3) (by kernel_rfl) h3
   exact ⟨t,by rw[ht,h4];simp[wV]⟩
end Go.Vs.YtmaenhgipojmfaaGreatDoor
