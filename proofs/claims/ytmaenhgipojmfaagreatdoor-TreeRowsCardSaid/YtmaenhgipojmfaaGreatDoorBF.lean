/- errors.As at the targets **Fault and *Errno: the walks, at chains of whatever depth. No conditions. -/
import Derived.Test.YtmaenhgipojmfaaGreatDoorBE
import Derived.LoopTactic
import Derived.Lib.Hide
set_option linter.unusedVariables false
set_option linter.unusedSimpArgs false
set_option linter.unusedSimpArgs false
set_option linter.unusedVariables false
namespace Go.Vs.YtmaenhgipojmfaaGreatDoor.E
open Go.Proofs Go.Proofs.YtmaenhgipojmfaaGreatDoor Go.RowKit Go.Extern.Stop Go.Stop Go.Extern
set_option maxRecDepth 1000000
set_option pp.deepTerms true

def ErrV (W:World) (n:Int):List Int→Value→Prop
 | [],E=>E=.iface 33 (.int .i64 n)
 | p::ps,E=>∃ pb po,E=.iface 54 (.pointer (some ⟨pb,po,none⟩))∧∃ E',W.cell? ⟨pb,po+1,none⟩=some E'∧ErrV W n ps E'
theorem ErrV.unique {W:World} {n:Int} : ∀ {ps qs:List Int} {E:Value},ErrV W n ps E→ErrV W n qs E→ps.length=qs.length
 | [],[],_,_,_=>rfl
 | [],_::_,_,h,⟨_,_,h',_⟩=>by have h:_=_:=h;rw[h] at h';simp at h'
 | _::_,[],_,⟨_,_,h',_⟩,h=>by have h:_=_:=h;rw[h] at h';simp at h'
 | _::ps,_::qs,_,⟨pb,po,h1,E1,h2,h3⟩,⟨pb',po',k1,E2,k2,k3⟩=>by
  subst h1
  simp only[Value.iface.injEq,Value.pointer.injEq,Option.some.injEq,Addr.mk.injEq,true_and,and_true] at k1
  obtain ⟨rfl,rfl⟩:=k1
  rw[h2] at k2
  obtain rfl:=Option.some.inj k2
  simp[ErrV.unique h3 k3]
theorem ErrV.mono {W W':World} {n:Int} (hk:∀ a v,W.cell? a=some v→W'.cell? a=some v):∀ {ps:List Int} {E:Value},ErrV W n ps E→ErrV W' n ps E
 | [],_,h=>h
 | _::ps,_,⟨pb,po,h1,E1,h2,h3⟩=>⟨pb,po,h1,E1,hk _ _ h2,ErrV.mono hk h3⟩
open Classical in
noncomputable def Ca (W:World) (n:Int) (E:Value):Nat:=if h:∃ l,ErrV W n l E then h.choose.length else 0
theorem AU {W:World} {n:Int} {E:Value} {l:List Int} (h:ErrV W n l E):Ca W n E=l.length:=by
 unfold Ca
 have hx:∃ l,ErrV W n l E:=⟨l,h⟩
 rw[dif_pos hx]
 exact ErrV.unique hx.choose_spec h
theorem bB {w:World} {o:Obj} : ∀ a v,w.cell? a=some v→(w.alloc o).cell? a=some v:=by
 intro a v h
 have hlt:a.block < w.heap.size:=by
  rcases Nat.lt_or_ge a.block w.heap.size with h' | h'
  ·exact h'
  ·simp[World.cell?,Array.getElem?_eq_none h'] at h
 rw[World.cell?_alloc_lt _ _ a hlt];exact h
theorem mW {w:World} {a:Addr} {v:Value} (h:w.cell? a=some v):a.block < w.heap.size:=by
 rcases Nat.lt_or_ge a.block w.heap.size with h' | h'
 ·exact h'
 ·simp[World.cell?,Array.getElem?_eq_none h'] at h
theorem dc {w:World} {o:Obj} {a:Addr} (h:a.block < w.heap.size) (hf:w.frozen? a=false):(w.alloc o).frozen? a=false:=by
 rw[World.frozen?_alloc_old _ _ a (Nat.ne_of_lt h)];exact hf

theorem Ov (pb po:Nat) (E:Value) (w:World) (h:w.cell? ⟨pb,po+1,none⟩=some E) :
  Calls Tryz.prog 175 #[.pointer (some ⟨pb,po,none⟩)] w fun e w'=>e=.returned E∧w'=w:=by
 go_enter Tryz.func175,Tryz.ntmps175
 go_wp2
 go_ret
 exact ⟨rfl,rfl⟩

set_option maxHeartbeats 4000000 in
theorem N9 (n:Int) (ps:List Int) (E:Value) (W:World) (a t:Addr) (old:Value) (hE:ErrV W n ps E) (ha:W.cell? a=some (.pointer (some t))) (ht:W.cell? t=some old) (hf:W.frozen? t=false) :
  Calls Tryz.prog 59 #[E,.iface 95 (.pointer (some t)),.agg #[.pointer (some ⟨4,95,none⟩),.pointer (some a),.int .u64 150],.iface 161 (.agg #[.pointer (some ⟨4,33,none⟩)])] W
   fun e w'=>e=.returned (.bool true)∧w'=((W.alloc (.cells #[.pointer (some ⟨4,95,none⟩),.pointer (some a),.int .u64 150] 115)).alloc (.cells #[.int .i64 n] 33)).setCell t (.int .i64 n):=by
 have hTO:=@run_callFunc_extern Tryz.prog 91 _ ReflectliteType.typeOf Tryz.func91 (by kernel_rfl) (by kernel_rfl) (by kernel_rfl) (by kernel_rfl)
 have hAss:=@run_callFunc_extern Tryz.prog 182 _ (ReflectliteType.relation "AssignableTo" ReflectliteType.assignableTo) Tryz.func182 (by kernel_rfl) (by kernel_rfl) (by kernel_rfl) (by kernel_rfl)
 have hVE:=@run_callFunc_extern Tryz.prog 92 _ (ReflectliteValue.method (ReflectliteValue.valueError "reflectlite.Value.Elem" 0) ReflectliteValue.elem) Tryz.func92 (by kernel_rfl) (by kernel_rfl) (by kernel_rfl) (by kernel_rfl)
 have hVO:=@run_callFunc_extern Tryz.prog 56 _ (fun args=>ReflectliteValue.unpack (args.getD 0 (.tuple #[]))) Tryz.func56 (by kernel_rfl) (by kernel_rfl) (by kernel_rfl) (by kernel_rfl)
 have hVS:=@run_callFunc_extern Tryz.prog 93 _ ReflectliteValue.set Tryz.func93 (by kernel_rfl) (by kernel_rfl) (by kernel_rfl) (by kernel_rfl)
 have q1:=Mm;have q2:=Mn;have q3:=N3;have q4:=NF;have q5:=NI;have q6:=NJ;have q7:=O6;have q8:=O7;have q9:=Oq
 have hE1:=ErrV.mono (bB (o:=.cells #[.pointer (some ⟨4,95,none⟩),.pointer (some a),.int .u64 150] 115)) hE
 obtain ⟨W1,hW1⟩:∃ W1,W1=W.alloc (.cells #[.pointer (some ⟨4,95,none⟩),.pointer (some a),.int .u64 150] 115):=⟨_,rfl⟩
 rw[←hW1] at hE1
 have el:=N8 a t W1 (by rw[hW1];exact bB _ _ ha)
 have hlt:t.block < W.heap.size:=mW ht
 have st:=Od t ⟨W1.heap.size,0,none⟩ n old (W1.alloc (.cells #[.int .i64 n] 33)) (by rw[World.cell?_alloc_at _ _ _ _ (by simp)];rfl) (by rw[hW1];exact bB _ _ (bB _ _ ht))
  (by rw[hW1];exact dc (by simp;omega) (dc hlt hf))
 have box:⟨W.heap.size,0,none⟩=(⟨W.heap.size,0,none⟩:Addr):=rfl
 have c0:W1.cell? ⟨W.heap.size,0,none⟩=some (.pointer (some ⟨4,95,none⟩)):=by rw[hW1];simp
 have c1:W1.cell? ⟨W.heap.size,1,none⟩=some (.pointer (some a)):=by rw[hW1];simp
 have c2:W1.cell? ⟨W.heap.size,2,none⟩=some (.int .u64 150):=by rw[hW1];simp
 have HW:=Lib.hid hW1
 clear hW1 hE ha ht hf hlt box
 go_enter Tryz.func59,Tryz.ntmps59
 go_wp2
 go_loopw [0] (fun E' wl=>wl=W1∧∃ l',ErrV W1 n l' E') (fun E' _=>Ca W1 n E')
 case atStart=>exact ⟨HW.out.symm,ps,hE1⟩
 case round=>
  obtain ⟨hwl,l',hc'⟩:=hrel
  subst hwl
  cases l' with
  | nil=>
   obtain rfl:_=_:=hc'
   go_wp2
   go_ret
   exact ⟨rfl,by rw[HW.out]⟩
  | cons p l'=>
   obtain ⟨pb,po,rfl,E1,h2,h3⟩:=hc'
   have m1:=AU h3
   have m2:Ca _ n (.iface 54 (.pointer (some ⟨pb,po,none⟩)))=l'.length+1:=AU (l:=p::l') ⟨pb,po,rfl,E1,h2,h3⟩
   have hne:∃ T v,E1=.iface T v:=by
    cases l' with
    | nil=>exact ⟨_,_,h3⟩
    | cons p l'=>obtain ⟨pb,po,h,_⟩:=h3;exact ⟨_,_,h⟩
   obtain ⟨T,v,rfl⟩:=hne
   have M1:=Lib.hid m1
   have M2:=Lib.hid m2
   have H3:=Lib.hid h3
   clear m1 m2 h3
   go_wp2_with (go_at_call 175;refine (Ov pb po _ _ h2).mono ?_;rintro e w' ⟨rfl,rfl⟩)
   go_roundw
   case rel=>exact ⟨trivial,l',H3.out⟩
   case measure=>rw[M1.out,M2.out];omega

theorem NP (e a t:Addr) (old:Value) (W:World) (ha:W.cell? a=some (.pointer (some t))) (ht:W.cell? t=some old) (hf:W.frozen? t=false) :
  Calls Tryz.prog 59 #[.iface 54 (.pointer (some e)),.iface 56 (.pointer (some t)),.agg #[.pointer (some ⟨4,56,none⟩),.pointer (some a),.int .u64 150],.iface 161 (.agg #[.pointer (some ⟨4,54,none⟩)])] W
   fun ev w'=>ev=.returned (.bool true)∧w'=((W.alloc (.cells #[.pointer (some ⟨4,56,none⟩),.pointer (some a),.int .u64 150] 115)).alloc (.cells #[.pointer (some e)] 54)).setCell t (.pointer (some e)):=by
 have hTO:=@run_callFunc_extern Tryz.prog 91 _ ReflectliteType.typeOf Tryz.func91 (by kernel_rfl) (by kernel_rfl) (by kernel_rfl) (by kernel_rfl)
 have hAss:=@run_callFunc_extern Tryz.prog 182 _ (ReflectliteType.relation "AssignableTo" ReflectliteType.assignableTo) Tryz.func182 (by kernel_rfl) (by kernel_rfl) (by kernel_rfl) (by kernel_rfl)
 have hVE:=@run_callFunc_extern Tryz.prog 92 _ (ReflectliteValue.method (ReflectliteValue.valueError "reflectlite.Value.Elem" 0) ReflectliteValue.elem) Tryz.func92 (by kernel_rfl) (by kernel_rfl) (by kernel_rfl) (by kernel_rfl)
 have hVO:=@run_callFunc_extern Tryz.prog 56 _ (fun args=>ReflectliteValue.unpack (args.getD 0 (.tuple #[]))) Tryz.func56 (by kernel_rfl) (by kernel_rfl) (by kernel_rfl) (by kernel_rfl)
 have hVS:=@run_callFunc_extern Tryz.prog 93 _ ReflectliteValue.set Tryz.func93 (by kernel_rfl) (by kernel_rfl) (by kernel_rfl) (by kernel_rfl)
 have q1:=Mm;have q3:=N3;have q4:=NH;have q9:=Oo
 obtain ⟨W1,hW1⟩:∃ W1,W1=W.alloc (.cells #[.pointer (some ⟨4,56,none⟩),.pointer (some a),.int .u64 150] 115):=⟨_,rfl⟩
 have el:=N7 a t W1 (by rw[hW1];exact bB _ _ ha)
 have hlt:t.block < W.heap.size:=mW ht
 have st:=Oc t ⟨W.heap.size+1,0,none⟩ e old (W1.alloc (.cells #[.pointer (some e)] 54)) (by rw[World.cell?_alloc_at _ _ _ _ (by simp[hW1])];rfl) (by rw[hW1];exact bB _ _ (bB _ _ ht))
  (by rw[hW1];exact dc (by simp;omega) (dc hlt hf))
 rw[hW1] at el st
 clear hW1 ha ht hf hlt
 go_enter Tryz.func59,Tryz.ntmps59
 go_wp2
 refine wp_loop_rounds 1 ?_
 rw[rounds_succ]
 go_wp2
 go_ret
 exact ⟨rfl,rfl⟩

theorem JF (n:Int) (a t:Addr) (W:World) :
  Calls Tryz.prog 59 #[.iface 33 (.int .i64 n),.iface 56 (.pointer (some t)),.agg #[.pointer (some ⟨4,56,none⟩),.pointer (some a),.int .u64 150],.iface 161 (.agg #[.pointer (some ⟨4,54,none⟩)])] W
   fun ev w'=>ev=.returned (.bool false)∧w'=W.alloc (.cells #[.pointer (some ⟨4,56,none⟩),.pointer (some a),.int .u64 150] 115):=by
 have hTO:=@run_callFunc_extern Tryz.prog 91 _ ReflectliteType.typeOf Tryz.func91 (by kernel_rfl) (by kernel_rfl) (by kernel_rfl) (by kernel_rfl)
 have hAss:=@run_callFunc_extern Tryz.prog 182 _ (ReflectliteType.relation "AssignableTo" ReflectliteType.assignableTo) Tryz.func182 (by kernel_rfl) (by kernel_rfl) (by kernel_rfl) (by kernel_rfl)
 have q1:=Mn;have q3:=N3;have q4:=NG;have q5:=NK;have q6:=N4;have q7:=LB
 go_enter Tryz.func59,Tryz.ntmps59
 go_wp2
 refine wp_loop_rounds 1 ?_
 rw[rounds_succ]
 go_wp2
 go_ret
 exact ⟨rfl,rfl⟩
end Go.Vs.YtmaenhgipojmfaaGreatDoor.E
