/- Value semantics, part 1: abstract values, their reading in a world, abstract states, and what keeps a reading. No conditions. -/
import Derived.WalkKit
set_option linter.unusedVariables false
set_option linter.unusedSimpArgs false
set_option linter.unusedVariables false
set_option linter.unusedSimpArgs false
namespace Go.Vs

/-- An immutable value: what is read of a Go value, all memory behind it included. -/
inductive IV where
  | int (k : IntKind) (n : Int)
  | bool (b : Bool)
  | str (s : List UInt8)
  | nilp
  | ref (cells : List IV)
  | slice (rows : List (List IV))
  | nilf
  | yld (l : Nat)
  | fn (f : Nat) (caps : List IV)
  | bnd (f : Nat) (first : List IV)
  | nili
  | handle (t b o : Nat)
  | nilS
  | iface (t : Nat) (v : IV)
  | agg (cells : List IV)
  | tuple (vs : List IV)
  deriving Inhabited, Repr

def IV.one : IV → Bool
  | .agg _ => false
  | .tuple _ => false
  | _ => true

abbrev Stab := Nat → Nat → Prop

mutual
def Rep (w : World) (S : Stab) : IV → Value → Prop
  | .int k n, v => v = .int k n
  | .bool b, v => v = .bool b
  | .str s, v => v = .string ⟨s.toArray⟩
  | .nilp, v => v = .pointer none
  | .ref cells, v => ∃ blk off, v = .pointer (some ⟨blk, off, none⟩) ∧ RepCells w S cells blk off
  | .slice rows, v => ∃ a cap, v = .slice a rows.length cap ∧ rows.length ≤ cap ∧
      (rows ≠ [] → ∃ blk off s, a = some ⟨blk, off, none⟩ ∧ RepRows w S rows s blk off)
  | .nilf, v => v = .nilFunc
  | .yld l, v => v = .func (.yield l) #[] #[]
  | .fn f caps, v => ∃ vs, v = .func (.func f) #[] vs ∧ RepList w S caps vs.toList
  | .bnd f first, v => ∃ vs, v = .func (.func f) vs #[] ∧ RepList w S first vs.toList
  | .nili, v => v = .nilIface
  | .nilS, v => v = .slice none 0 0
  | .handle t b o, v => v = .iface t (.agg #[.pointer (some ⟨b, o, none⟩)])
  | .iface t x, v => ∃ u, v = .iface t u ∧ Rep w S x u
  | .agg cells, v => ∃ vs, v = .agg vs ∧ RepOnes w S cells vs.toList
  | .tuple xs, v => ∃ vs, v = .tuple vs ∧ RepList w S xs vs.toList
def RepList (w : World) (S : Stab) : List IV → List Value → Prop
  | [], vs => vs = []
  | x :: xs, vs => ∃ v vs', vs = v :: vs' ∧ Rep w S x v ∧ RepList w S xs vs'
def RepOnes (w : World) (S : Stab) : List IV → List Value → Prop
  | [], vs => vs = []
  | x :: xs, vs => ∃ v vs', vs = v :: vs' ∧ x.one = true ∧ Rep w S x v ∧ RepOnes w S xs vs'
def RepCells (w : World) (S : Stab) : List IV → Nat → Nat → Prop
  | [], _, _ => True
  | x :: xs, blk, off => S blk off ∧ x.one = true ∧ (∃ v, w.cell? ⟨blk, off, none⟩ = some v ∧ Rep w S x v) ∧ RepCells w S xs blk (off + 1)
def RepRows (w : World) (S : Stab) : List (List IV) → Nat → Nat → Nat → Prop
  | [], _, _, _ => True
  | r :: rs, s, blk, off => r.length = s ∧ RepCells w S r blk off ∧ RepRows w S rs s blk (off + s)
end

/-- What an object of a kind of its own holds: a string that is ranged over, or a map of plain keys and values. -/
inductive ItS where
  | str (s : List UInt8)
  | map (es : List (List IV × IV))
  deriving Inhabited, Repr
def IV.pln : IV → Value
  | .int k n => .int k n
  | .str s => .string ⟨s.toArray⟩
  | .bool b => .bool b
  | _ => .nilIface
def entsV : List (List IV × IV) → Nat → List MapEntry
  | [], _ => []
  | (k, v) :: r, n => ⟨.agg (k.map IV.pln).toArray, v.pln, n⟩ :: entsV r (n + 1)
def ItS.hnd : ItS → Nat → Value
  | .str _, b => .pointer (some ⟨b, 0, none⟩)
  | .map _, b => .map (some b)
def ItS.obj : ItS → Nat → Obj
  | .str s, p => .stringIter ⟨s.toArray⟩ p
  | .map es, p => .map (entsV es 0).toArray p

/-- What stands in a slot: an immutable value, or something of the call's own. -/
inductive SV where
  | undef
  | val (v : IV)
  | nils
  | full (rows : List (List IV))
  | own (id ver : Nat)
  | loc (id off : Nat)
  | eloc (id ver i off : Nat)
  | view (id ver lo hi : Nat)
  | agg (cells : List SV)
  | clo (f : Nat) (caps : List SV)
  | bdl (f : Nat) (caps : List SV)
  | tup (caps : List SV)
  | ifc (t : Nat) (v : SV)
  | anyB
  | selfN (id t : Nat) (nn : Bool)
  | ownT (id ver t : Nat)
  | itr (id : Nat)
  | town (id ver : Nat)
  | teloc (id ver i off : Nat)
  | nilT
  | emp (c : Nat)
  deriving Inhabited, Repr

/-- An object of the call's own: a variable, or an array that it made. -/
inductive Ob where
  | box (cells : List SV)
  | arr (ver s : Nat) (rows : List (List IV))
  | iter (s : ItS) (pos : Nat)
  | tab (ver s : Nat) (rows : List (List IV)) (ln : List (Nat × Nat × SV))
  deriving Inhabited, Repr

def look {α : Type} : List (Nat × α) → Nat → Option α
  | [], _ => none
  | (j, v) :: r, k => bif j == k then some v else look r k

def del {α : Type} : List (Nat × α) → Nat → List (Nat × α)
  | [], _ => []
  | (j, v) :: r, k => bif j == k then r else (j, v) :: del r k

def put {α : Type} (l : List (Nat × α)) (k : Nat) (v : α) : List (Nat × α) := (k, v) :: l

structure St where
  env : List (Nat × SV)
  objs : List (Nat × Ob)
  ro : List Nat
  n : Nat
  gl : List (Nat × List IV)

def getE (env : List (Nat × SV)) (k : Nat) : SV := (look env k).getD .undef

def SV.one : SV → Bool
  | .undef => false
  | .val v => v.one
  | .agg _ => false
  | .tup _ => false
  | _ => true

mutual
def SVRel (w : World) (S : Stab) (μ : Nat → Value) (objs : List (Nat × Ob)) : SV → Value → Prop
  | .undef, _ => True
  | .val iv, v => Rep w S iv v
  | .nils, v => ∃ a, v = .slice a 0 0
  | .full rows, v => Rep w S (.slice rows) v ∧ ∃ a, v = .slice a rows.length rows.length
  | .own id ver, v => ∀ cv s rows, look objs id = some (.arr cv s rows) → ver ≤ cv ∧ (ver = cv → v = μ id)
  | .loc id off, v => ∀ cells, look objs id = some (.box cells) → ∃ b, μ id = .pointer (some ⟨b, 0, none⟩) ∧ v = .pointer (some ⟨b, off, none⟩)
  | .eloc id ver i off, v => ∀ cv s rows, look objs id = some (.arr cv s rows) → ver ≤ cv ∧
      (ver = cv → ∃ b cap, μ id = .slice (some ⟨b, 0, none⟩) rows.length cap ∧ v = .pointer (some ⟨b, i * s + off, none⟩))
  | .view id ver lo hi, v => ∀ cv s rows, look objs id = some (.arr cv s rows) → ver ≤ cv ∧
      (ver = cv → lo ≤ hi ∧ hi ≤ rows.length ∧ ∃ a cap a', μ id = .slice a rows.length cap ∧ v = .slice a' (hi - lo) (cap - lo) ∧ (lo = 0 → a' = a) ∧ (lo < rows.length → ∃ b, a = some ⟨b, 0, none⟩ ∧ a' = some ⟨b, lo * s, none⟩))
  | .agg cells, v => ∃ vs, v = .agg vs ∧ SVOnes w S μ objs cells vs.toList
  | .clo f caps, v => ∃ vs, v = .func (.func f) #[] vs ∧ SVList w S μ objs caps vs.toList
  | .bdl f caps, v => ∃ vs, v = .func (.func f) vs #[] ∧ SVList w S μ objs caps vs.toList
  | .tup caps, v => ∃ vs, v = .tuple vs ∧ SVList w S μ objs caps vs.toList
  | .ifc t x, v => ∃ u, v = .iface t u ∧ SVRel w S μ objs x u
  | .anyB, v => ∃ b, v = .bool b
  | .ownT id ver t, v => (∀ cv s rows, look objs id = some (.arr cv s rows) → ver ≤ cv ∧ (ver = cv → v = μ id)) ∧ ∀ a n c, v = .slice (some a) n c → ∃ m, w.shape? a.block = some (t, m)
  | .selfN id t nn, v => ∀ cells, look objs id = some (.box cells) → ∃ b, μ id = .pointer (some ⟨b, 0, none⟩) ∧ w.shape? b = some (t, 2) ∧ ((nn = false ∧ v = .pointer none) ∨ v = .pointer (some ⟨b, 0, none⟩))
  | .itr id, v => ∀ s p, look objs id = some (.iter s p) → v = μ id
  | .nilT, v => ∃ a, v = .slice a 0 0
  | .emp c, v => ∃ a, v = .slice a 0 c
  | .town id ver, v => ∀ cv s rows ln, look objs id = some (.tab cv s rows ln) → ver ≤ cv ∧ (ver = cv → v = μ id)
  | .teloc id ver i off, v => ∀ cv s rows ln, look objs id = some (.tab cv s rows ln) → ver ≤ cv ∧
      (ver = cv → ∃ b cap, μ id = .slice (some ⟨b, 0, none⟩) rows.length cap ∧ v = .pointer (some ⟨b, i * s + off, none⟩))
def SVList (w : World) (S : Stab) (μ : Nat → Value) (objs : List (Nat × Ob)) : List SV → List Value → Prop
  | [], vs => vs = []
  | x :: xs, vs => ∃ v vs', vs = v :: vs' ∧ SVRel w S μ objs x v ∧ SVList w S μ objs xs vs'
def SVOnes (w : World) (S : Stab) (μ : Nat → Value) (objs : List (Nat × Ob)) : List SV → List Value → Prop
  | [], vs => vs = []
  | x :: xs, vs => ∃ v vs', vs = v :: vs' ∧ v.oneCell' = true ∧ SVRel w S μ objs x v ∧ SVOnes w S μ objs xs vs'
end

/-- No cell of the row may not be written. -/
def NoFrz (fr : Nat × Nat) (n : Nat) : Prop := fr = (0, 0)
theorem NoFrz.zero (n : Nat) : NoFrz (0, 0) n := rfl

/-- Cells of rows that hold something of the call's own: what is read there, besides what the rows tell. -/
def LnRel (w : World) (S : Stab) (μ : Nat → Value) (objs : List (Nat × Ob)) (s n : Nat) (vs : List Value) : List (Nat × Nat × SV) → Prop
  | [] => True
  | p :: r => (p.1 < n ∧ p.2.1 < s ∧ ∃ v, vs[p.1 * s + p.2.1]? = some v ∧ SVRel w S μ objs p.2.2 v) ∧ LnRel w S μ objs s n vs r

/-- An object, in its block. -/
def ObRel (w : World) (S : Stab) (μ : Nat → Value) (objs : List (Nat × Ob)) (blk : Option Nat) (mu : Value) : Ob → Prop
  | .box cells => ∃ b vs e fr, blk = some b ∧ mu = .pointer (some ⟨b, 0, none⟩) ∧ w.heap[b]? = some (.cells vs e fr) ∧ NoFrz fr vs.size ∧ SVOnes w S μ objs cells vs.toList
  | .arr _ s rows => (rows = [] ∧ blk = none ∧ ∃ a, mu = .slice a 0 0) ∨
      (∃ b cap vs e fr, blk = some b ∧ mu = .slice (some ⟨b, 0, none⟩) rows.length cap ∧ w.heap[b]? = some (.cells vs e fr) ∧ NoFrz fr vs.size ∧ vs.size = cap * s ∧ rows.length ≤ cap ∧
        (∀ r ∈ rows, r.length = s) ∧ RepOnes w S rows.flatten (vs.toList.take (rows.length * s)))
  | .iter s pos => ∃ b, blk = some b ∧ mu = s.hnd b ∧ w.heap[b]? = some (s.obj pos)
  | .tab _ s rows ln => (rows = [] ∧ ln = [] ∧ blk = none ∧ ∃ a, mu = .slice a 0 0) ∨
      ∃ b cap vs e fr, blk = some b ∧ mu = .slice (some ⟨b, 0, none⟩) rows.length cap ∧ w.heap[b]? = some (.cells vs e fr) ∧ NoFrz fr vs.size ∧ vs.size = cap * s ∧ rows.length ≤ cap ∧
        (∀ r ∈ rows, r.length = s) ∧ RepOnes w S rows.flatten (vs.toList.take (rows.length * s)) ∧ LnRel w S μ objs s rows.length vs.toList ln

/-- Old memory, but for the blocks that may be written, is as it was. -/
structure Kept (M : Nat → Prop) (w w' : World) : Prop where
  os : w'.os = w.os
  tape : w'.tape = w.tape
  output : w'.output = w.output
  size : w.heap.size ≤ w'.heap.size
  block : ∀ k, k < w.heap.size → ¬ M k → w'.heap[k]? = w.heap[k]?
  shape : ∀ k x, w.shape? k = some x → w'.shape? k = some x

/- No handle on an object. -/
mutual
def SV.noRef (d : Nat) : SV → Bool
  | .undef => true
  | .val _ => true
  | .nils => true
  | .full _ => true
  | .own id _ => !(id == d)
  | .loc id _ => !(id == d)
  | .eloc id _ _ _ => !(id == d)
  | .view id _ _ _ => !(id == d)
  | .agg cells => SV.noRefs d cells
  | .clo _ caps => SV.noRefs d caps
  | .bdl _ caps => SV.noRefs d caps
  | .tup caps => SV.noRefs d caps
  | .ifc _ v => SV.noRef d v
  | .anyB => true
  | .selfN id t nn => !(id == d)
  | .ownT id _ _ => !(id == d)
  | .itr id => !(id == d)
  | .nilT => true
  | .emp _ => true
  | .town id _ => !(id == d)
  | .teloc id _ _ _ => !(id == d)
def SV.noRefs (d : Nat) : List SV → Bool
  | [] => true
  | x :: xs => SV.noRef d x && SV.noRefs d xs
end
/-- What is asked of a call besides: which blocks may be written; which handles stay (none of a slot), with their values. -/
structure Ctx where
  blocks : Nat → Prop
  keep : List (Nat × SV)
  at' : Nat → Value
  df : List Deferred

/-- A known global: its cells, and no more. -/
def RepGl (w : World) (S : Stab) (p : Nat × List IV) : Prop := RepCells w S p.2 p.1 0 ∧ ∃ t, w.shape? p.1 = some (t, p.2.length)

structure SimG (w0 : World) (S0 : Stab) (M : Ctx) (σ : St) (a : Act) (w : World) (S : Stab) (μ : Nat → Value) (β : Nat → Option Nat) : Prop where
  defers : a.defers = M.df
  size : a.tmps.size = σ.n
  env : ∀ k, SVRel w S μ σ.objs (getE σ.env k) (a.tmps.getD k Go.undef)
  objs : ∀ id o, look σ.objs id = some o → ObRel w S μ σ.objs (β id) (μ id) o
  inj : ∀ id id' o o' b, look σ.objs id = some o → look σ.objs id' = some o' → β id = some b → β id' = some b → id = id'
  own : ∀ id o b, look σ.objs id = some o → β id = some b → w0.heap.size ≤ b ∨ M.blocks b
  unst : ∀ id o b off, look σ.objs id = some o → β id = some b → S b off → id ∈ σ.ro ∧ ∀ ver s rows, o = .arr ver s rows → off < rows.length * s
  stab : ∀ b o, S b o → b < w.heap.size
  ext : ∀ b o, S0 b o → S b o
  back : ∀ b o, S b o → S0 b o ∨ w0.heap.size ≤ b ∨ M.blocks b
  kept : Kept M.blocks w0 w
  stay : ∀ b o, S0 b o → w.cell? ⟨b, o, none⟩ = w0.cell? ⟨b, o, none⟩
  hist : ∀ p, p ∈ M.keep → SVRel w S μ σ.objs p.2 (M.at' p.1)
  far : ∀ p, p ∈ M.keep → ∀ d, d < σ.n → p.2.noRef d = true
  glob : ∀ p, p ∈ σ.gl → RepGl w S p

def Sim (w0 : World) (S0 : Stab) (M : Ctx) (σ : St) (a : Act) (w : World) : Prop :=
  ∃ S μ β, SimG w0 S0 M σ a w S μ β

/-- The stable cells read as they did. -/
def Keeps (S : Stab) (w w' : World) : Prop := (∀ b o, S b o → w'.cell? ⟨b, o, none⟩ = w.cell? ⟨b, o, none⟩) ∧ ∀ k x, w.shape? k = some x → w'.shape? k = some x

theorem Keeps.refl (S : Stab) (w : World) : Keeps S w w := ⟨fun _ _ _ => rfl, fun _ _ h => h⟩
theorem shape_of_heap {w w' : World} {k : Nat} (h : w'.heap[k]? = w.heap[k]?) : w'.shape? k = w.shape? k := by simp only [World.shape?, h]
theorem shape_lt {w : World} {k : Nat} {x : TypeId × Nat} (h : w.shape? k = some x) : k < w.heap.size := by
  rcases Nat.lt_or_ge k w.heap.size with h1 | h1
  · exact h1
  · simp [World.shape?, Array.getElem?_eq_none h1] at h

mutual
theorem Rep.mono {w w' : World} {S S' : Stab} (hk : Keeps S w w') (hs : ∀ b o, S b o → S' b o) : ∀ (x : IV) (v : Value), Rep w S x v → Rep w' S' x v
  | .int k n, v, h => h
  | .bool b, v, h => h
  | .str s, v, h => h
  | .nilp, v, h => h
  | .ref cells, v, ⟨blk, off, h1, h2⟩ => ⟨blk, off, h1, RepCells.mono hk hs cells blk off h2⟩
  | .slice rows, v, ⟨a, cap, h1, h2, h3⟩ => ⟨a, cap, h1, h2, fun hn => let ⟨blk, off, s, h4, h5⟩ := h3 hn; ⟨blk, off, s, h4, RepRows.mono hk hs rows s blk off h5⟩⟩
  | .nilf, v, h => h
  | .yld _, v, h => h
  | .fn f caps, v, ⟨vs, h1, h2⟩ => ⟨vs, h1, RepList.mono hk hs caps _ h2⟩
  | .bnd f first, v, ⟨vs, h1, h2⟩ => ⟨vs, h1, RepList.mono hk hs first _ h2⟩
  | .nili, v, h => h
  | .handle _ _ _, v, h => h
  | .nilS, v, h => h
  | .iface t x, v, ⟨u, h1, h2⟩ => ⟨u, h1, Rep.mono hk hs x u h2⟩
  | .agg cells, v, ⟨vs, h1, h2⟩ => ⟨vs, h1, RepOnes.mono hk hs cells _ h2⟩
  | .tuple xs, v, ⟨vs, h1, h2⟩ => ⟨vs, h1, RepList.mono hk hs xs _ h2⟩
theorem RepList.mono {w w' : World} {S S' : Stab} (hk : Keeps S w w') (hs : ∀ b o, S b o → S' b o) : ∀ (x : List IV) (v : List Value), RepList w S x v → RepList w' S' x v
  | [], v, h => h
  | x :: xs, v, ⟨u, us, h1, h2, h3⟩ => ⟨u, us, h1, Rep.mono hk hs x u h2, RepList.mono hk hs xs us h3⟩
theorem RepOnes.mono {w w' : World} {S S' : Stab} (hk : Keeps S w w') (hs : ∀ b o, S b o → S' b o) : ∀ (x : List IV) (v : List Value), RepOnes w S x v → RepOnes w' S' x v
  | [], v, h => h
  | x :: xs, v, ⟨u, us, h1, h0, h2, h3⟩ => ⟨u, us, h1, h0, Rep.mono hk hs x u h2, RepOnes.mono hk hs xs us h3⟩
theorem RepCells.mono {w w' : World} {S S' : Stab} (hk : Keeps S w w') (hs : ∀ b o, S b o → S' b o) : ∀ (x : List IV) (blk off : Nat), RepCells w S x blk off → RepCells w' S' x blk off
  | [], _, _, _ => trivial
  | x :: xs, blk, off, ⟨h1, h2, ⟨v, h3, h4⟩, h5⟩ => ⟨hs _ _ h1, h2, ⟨v, (hk.1 _ _ h1).trans h3, Rep.mono hk hs x v h4⟩, RepCells.mono hk hs xs blk (off + 1) h5⟩
theorem RepRows.mono {w w' : World} {S S' : Stab} (hk : Keeps S w w') (hs : ∀ b o, S b o → S' b o) : ∀ (x : List (List IV)) (s blk off : Nat), RepRows w S x s blk off → RepRows w' S' x s blk off
  | [], _, _, _, _ => trivial
  | r :: rs, s, blk, off, ⟨h1, h2, h3⟩ => ⟨h1, RepCells.mono hk hs r blk off h2, RepRows.mono hk hs rs s blk (off + s) h3⟩
end
theorem RepGl.mono {w w' : World} {S S' : Stab} (hk : Keeps S w w') (hs : ∀ b o, S b o → S' b o) {p : Nat × List IV} (h : RepGl w S p) : RepGl w' S' p := ⟨RepCells.mono hk hs _ _ _ h.1, h.2.imp fun _ ht => hk.2 _ _ ht⟩
mutual
theorem SVRel.mono {w w' : World} {S S' : Stab} (hk : Keeps S w w') (hs : ∀ b o, S b o → S' b o) {μ : Nat → Value} {objs : List (Nat × Ob)} : ∀ (x : SV) (v : Value), SVRel w S μ objs x v → SVRel w' S' μ objs x v
  | .undef, v, h => h
  | .val x, v, h => Rep.mono hk hs x v h
  | .nils, v, h => h
  | .full rows, v, h => ⟨Rep.mono hk hs _ v h.1, h.2⟩
  | .own id ver, v, h => h
  | .loc id off, v, h => h
  | .eloc id ver i off, v, h => h
  | .view id ver lo hi, v, h => h
  | .agg cells, v, ⟨vs, h1, h2⟩ => ⟨vs, h1, SVOnes.mono hk hs cells _ h2⟩
  | .clo f caps, v, ⟨vs, h1, h2⟩ => ⟨vs, h1, SVList.mono hk hs caps _ h2⟩
  | .bdl f caps, v, ⟨vs, h1, h2⟩ => ⟨vs, h1, SVList.mono hk hs caps _ h2⟩
  | .tup caps, v, ⟨vs, h1, h2⟩ => ⟨vs, h1, SVList.mono hk hs caps _ h2⟩
  | .ifc t x, v, ⟨u, h1, h2⟩ => ⟨u, h1, SVRel.mono hk hs x u h2⟩
  | .anyB, v, h => h
  | .ownT id ver t, v, ⟨h, h'⟩ => ⟨h, fun a n c e => let ⟨m, hm⟩ := h' a n c e; ⟨m, hk.2 _ _ hm⟩⟩
  | .selfN id t nn, v, h => fun cells hl => let ⟨b, h1, h2, h3⟩ := h cells hl; ⟨b, h1, hk.2 _ _ h2, h3⟩
  | .itr id, v, h => h
  | .nilT, v, h => h
  | .emp _, v, h => h
  | .town id ver, v, h => h
  | .teloc id ver i off, v, h => h
theorem SVList.mono {w w' : World} {S S' : Stab} (hk : Keeps S w w') (hs : ∀ b o, S b o → S' b o) {μ : Nat → Value} {objs : List (Nat × Ob)} : ∀ (x : List SV) (v : List Value), SVList w S μ objs x v → SVList w' S' μ objs x v
  | [], v, h => h
  | x :: xs, v, ⟨u, us, h1, h2, h3⟩ => ⟨u, us, h1, SVRel.mono hk hs x u h2, SVList.mono hk hs xs us h3⟩
theorem SVOnes.mono {w w' : World} {S S' : Stab} (hk : Keeps S w w') (hs : ∀ b o, S b o → S' b o) {μ : Nat → Value} {objs : List (Nat × Ob)} : ∀ (x : List SV) (v : List Value), SVOnes w S μ objs x v → SVOnes w' S' μ objs x v
  | [], v, h => h
  | x :: xs, v, ⟨u, us, h1, h0, h2, h3⟩ => ⟨u, us, h1, h0, SVRel.mono hk hs x u h2, SVOnes.mono hk hs xs us h3⟩
end

def noRefLn (d : Nat) : List (Nat × Nat × SV) → Bool
  | [] => true
  | p :: r => p.2.2.noRef d && noRefLn d r
def Ob.noRef (d : Nat) : Ob → Bool
  | .box cells => SV.noRefs d cells
  | .arr _ _ _ => true
  | .iter _ _ => true
  | .tab _ _ _ ln => noRefLn d ln
def noRefE (d : Nat) : List (Nat × SV) → Bool
  | [] => true
  | (_, v) :: r => v.noRef d && noRefE d r
def noRefO (d : Nat) : List (Nat × Ob) → Bool
  | [] => true
  | (_, v) :: r => v.noRef d && noRefO d r

section
variable {α : Type}
theorem look_del_ne (l : List (Nat × α)) {k j : Nat} (h : j ≠ k) : look (del l k) j = look l j := by
  induction l with
  | nil => rfl
  | cons p r ih =>
    obtain ⟨i, v⟩ := p
    by_cases hik : i = k
    · subst hik
      have hij : (i == j) = false := by simpa using (fun e => h e.symm)
      simp [del, look, hij]
    · have : (i == k) = false := by simpa using hik
      simp only [del, this, look, cond_false, ih]
theorem look_put_self (l : List (Nat × α)) (k : Nat) (v : α) : look (put l k v) k = some v := by simp [put, look]
theorem look_put_ne (l : List (Nat × α)) {k j : Nat} (v : α) (h : j ≠ k) : look (put l k v) j = look l j := by
  have : (k == j) = false := by simpa using (fun e => h e.symm)
  simp [put, look, this]
theorem look_put (l : List (Nat × α)) (k j : Nat) (v : α) : look (put l k v) j = if j = k then some v else look l j := by
  split
  · next h => subst h; exact look_put_self _ _ _
  · next h => exact look_put_ne _ _ h
end
theorem getE_put (l : List (Nat × SV)) (k j : Nat) (v : SV) : getE (put l k v) j = if j = k then v else getE l j := by
  unfold getE; rw [look_put]; split <;> rfl

def SV.erase (d : Nat) (v : SV) : SV := bif v.noRef d then v else .undef
def eraseL (d : Nat) : List SV → List SV
  | [] => []
  | v :: r => v.erase d :: eraseL d r
def eraseLn (d : Nat) : List (Nat × Nat × SV) → List (Nat × Nat × SV)
  | [] => []
  | p :: r => (p.1, p.2.1, p.2.2.erase d) :: eraseLn d r
def Ob.erase (d : Nat) : Ob → Ob
  | .box cells => .box (eraseL d cells)
  | .arr ver s rows => .arr ver s rows
  | .iter s p => .iter s p
  | .tab ver s rows ln => .tab ver s rows (eraseLn d ln)
def eraseE (d : Nat) : List (Nat × SV) → List (Nat × SV)
  | [] => []
  | (k, v) :: r => (k, v.erase d) :: eraseE d r
def eraseO (d : Nat) : List (Nat × Ob) → List (Nat × Ob)
  | [] => []
  | (k, v) :: r => (k, v.erase d) :: eraseO d r

theorem SV.noRef_erase (d : Nat) (v : SV) : (v.erase d).noRef d = true := by
  unfold SV.erase
  cases h : v.noRef d
  · rfl
  · exact h
theorem noRefs_eraseL (d : Nat) : ∀ l : List SV, SV.noRefs d (eraseL d l) = true
  | [] => rfl
  | v :: r => by simp [eraseL, SV.noRefs, SV.noRef_erase, noRefs_eraseL d r]
theorem getE_eraseE (d : Nat) (env : List (Nat × SV)) (k : Nat) : getE (eraseE d env) k = (getE env k).erase d := by
  induction env with
  | nil => rfl
  | cons p r ih =>
    obtain ⟨i, v⟩ := p
    unfold getE at ih ⊢
    simp only [eraseE, look]
    cases i == k
    · exact ih
    · rfl
theorem look_eraseO (d : Nat) (objs : List (Nat × Ob)) (k : Nat) : look (eraseO d objs) k = (look objs k).map (Ob.erase d) := by
  induction objs with
  | nil => rfl
  | cons p r ih =>
    obtain ⟨i, v⟩ := p
    simp only [eraseO, look]
    cases i == k
    · exact ih
    · rfl
theorem SVRel.erase {w : World} {S : Stab} {μ : Nat → Value} {objs : List (Nat × Ob)} {x : SV} {v : Value} (d : Nat) (h : SVRel w S μ objs x v) : SVRel w S μ objs (x.erase d) v := by
  unfold SV.erase
  cases x.noRef d
  · trivial
  · exact h
theorem SVOnes.erase {w : World} {S : Stab} {μ : Nat → Value} {objs : List (Nat × Ob)} (d : Nat) : ∀ {x : List SV} {vs : List Value}, SVOnes w S μ objs x vs → SVOnes w S μ objs (eraseL d x) vs
  | [], _, h => h
  | _ :: _, _, ⟨u, us, h1, h0, h2, h3⟩ => ⟨u, us, h1, h0, SVRel.erase d h2, SVOnes.erase d h3⟩

theorem noRefE_get {d : Nat} {env : List (Nat × SV)} (h : noRefE d env = true) (k : Nat) : (getE env k).noRef d = true := by
  induction env with
  | nil => rfl
  | cons p r ih =>
    obtain ⟨i, v⟩ := p
    simp only [noRefE, Bool.and_eq_true] at h
    unfold getE
    simp only [look]
    cases hik : i == k
    · exact ih h.2
    · exact h.1
theorem noRefO_get {d : Nat} {objs : List (Nat × Ob)} (h : noRefO d objs = true) {k : Nat} {o : Ob} (hk : look objs k = some o) : o.noRef d = true := by
  induction objs with
  | nil => simp [look] at hk
  | cons p r ih =>
    obtain ⟨i, v⟩ := p
    simp only [noRefO, Bool.and_eq_true] at h
    simp only [look] at hk
    cases hik : i == k
    · rw [hik] at hk; exact ih h.2 hk
    · rw [hik] at hk; simp at hk; subst hk; exact h.1
theorem noRefO_del {d : Nat} {objs : List (Nat × Ob)} (h : noRefO d objs = true) (k : Nat) : noRefO d (del objs k) = true := by
  induction objs with
  | nil => rfl
  | cons p r ih =>
    obtain ⟨i, v⟩ := p
    simp only [noRefO, Bool.and_eq_true] at h
    simp only [del]
    cases hik : i == k
    · simp [noRefO, h.1, ih h.2]
    · exact h.2

/- A change of the objects and their places that a handle does not look at. -/
mutual
theorem SVRel.other {w : World} {S : Stab} {μ μ' : Nat → Value} {objs objs' : List (Nat × Ob)} {d : Nat} (hμ : ∀ id, id ≠ d → μ' id = μ id) (ho : ∀ id, id ≠ d → look objs' id = look objs id) : ∀ (x : SV) (v : Value), x.noRef d = true → SVRel w S μ objs x v → SVRel w S μ' objs' x v
  | .undef, v, _, h => h
  | .val x, v, _, h => h
  | .nils, v, _, h => h
  | .full rows, v, _, h => h
  | .own id ver, v, hn, h => by
    have hid : id ≠ d := by simpa [SV.noRef] using hn
    simpa only [SVRel, ho id hid, hμ id hid] using h
  | .loc id off, v, hn, h => by
    have hid : id ≠ d := by simpa [SV.noRef] using hn
    simpa only [SVRel, ho id hid, hμ id hid] using h
  | .eloc id ver i off, v, hn, h => by
    have hid : id ≠ d := by simpa [SV.noRef] using hn
    simpa only [SVRel, ho id hid, hμ id hid] using h
  | .view id ver lo hi, v, hn, h => by
    have hid : id ≠ d := by simpa [SV.noRef] using hn
    simpa only [SVRel, ho id hid, hμ id hid] using h
  | .agg cells, v, hn, ⟨vs, h1, h2⟩ => ⟨vs, h1, SVOnes.other hμ ho cells _ (by simpa [SV.noRef] using hn) h2⟩
  | .clo f caps, v, hn, ⟨vs, h1, h2⟩ => ⟨vs, h1, SVList.other hμ ho caps _ (by simpa [SV.noRef] using hn) h2⟩
  | .bdl f caps, v, hn, ⟨vs, h1, h2⟩ => ⟨vs, h1, SVList.other hμ ho caps _ (by simpa [SV.noRef] using hn) h2⟩
  | .tup caps, v, hn, ⟨vs, h1, h2⟩ => ⟨vs, h1, SVList.other hμ ho caps _ (by simpa [SV.noRef] using hn) h2⟩
  | .ifc t x, v, hn, ⟨u, h1, h2⟩ => ⟨u, h1, SVRel.other hμ ho x u (by simpa [SV.noRef] using hn) h2⟩
  | .anyB, v, _, h => h
  | .selfN id t nn, v, hn, h => by
    have hid : id ≠ d := by simpa [SV.noRef] using hn
    simpa only [SVRel, ho id hid, hμ id hid] using h
  | .ownT id ver t, v, hn, h => by
    have hid : id ≠ d := by simpa [SV.noRef] using hn
    simpa only [SVRel, ho id hid, hμ id hid] using h
  | .itr id, v, hn, h => by
    have hid : id ≠ d := by simpa [SV.noRef] using hn
    simpa only [SVRel, ho id hid, hμ id hid] using h
  | .nilT, v, _, h => h
  | .emp _, v, _, h => h
  | .town id ver, v, hn, h => by
    have hid : id ≠ d := by simpa [SV.noRef] using hn
    simpa only [SVRel, ho id hid, hμ id hid] using h
  | .teloc id ver i off, v, hn, h => by
    have hid : id ≠ d := by simpa [SV.noRef] using hn
    simpa only [SVRel, ho id hid, hμ id hid] using h
theorem SVList.other {w : World} {S : Stab} {μ μ' : Nat → Value} {objs objs' : List (Nat × Ob)} {d : Nat} (hμ : ∀ id, id ≠ d → μ' id = μ id) (ho : ∀ id, id ≠ d → look objs' id = look objs id) : ∀ (x : List SV) (v : List Value), SV.noRefs d x = true → SVList w S μ objs x v → SVList w S μ' objs' x v
  | [], v, _, h => h
  | x :: xs, v, hn, ⟨u, us, h1, h2, h3⟩ => by
    simp only [SV.noRefs, Bool.and_eq_true] at hn
    exact ⟨u, us, h1, SVRel.other hμ ho x u hn.1 h2, SVList.other hμ ho xs us hn.2 h3⟩
theorem SVOnes.other {w : World} {S : Stab} {μ μ' : Nat → Value} {objs objs' : List (Nat × Ob)} {d : Nat} (hμ : ∀ id, id ≠ d → μ' id = μ id) (ho : ∀ id, id ≠ d → look objs' id = look objs id) : ∀ (x : List SV) (v : List Value), SV.noRefs d x = true → SVOnes w S μ objs x v → SVOnes w S μ' objs' x v
  | [], v, _, h => h
  | x :: xs, v, hn, ⟨u, us, h1, h0, h2, h3⟩ => by
    simp only [SV.noRefs, Bool.and_eq_true] at hn
    exact ⟨u, us, h1, h0, SVRel.other hμ ho x u hn.1 h2, SVOnes.other hμ ho xs us hn.2 h3⟩
end

/- The objects' contents have turned, their kinds have not; where an array's version has not gone up, its place and length have not turned. -/
mutual
theorem SVRel.same {w : World} {S : Stab} {μ μ' : Nat → Value} {objs objs' : List (Nat × Ob)}
    (hb : ∀ id cells, look objs' id = some (.box cells) → ∃ cells', look objs id = some (.box cells') ∧ μ' id = μ id)
    (ha : ∀ id cv s rows, look objs' id = some (.arr cv s rows) → ∃ cv' rows', look objs id = some (.arr cv' s rows') ∧ cv' ≤ cv ∧ (cv' = cv → rows'.length = rows.length ∧ μ' id = μ id))
    (hi : ∀ id s p, look objs' id = some (.iter s p) → ∃ s' p', look objs id = some (.iter s' p') ∧ μ' id = μ id)
    (ht : ∀ id cv s rows ln, look objs' id = some (.tab cv s rows ln) → ∃ cv' rows' ln', look objs id = some (.tab cv' s rows' ln') ∧ cv' ≤ cv ∧ (cv' = cv → rows'.length = rows.length ∧ μ' id = μ id)) :
    ∀ (x : SV) (v : Value), SVRel w S μ objs x v → SVRel w S μ' objs' x v
  | .undef, v, h => h
  | .val x, v, h => h
  | .nils, v, h => h
  | .full rows, v, h => h
  | .own id ver, v, h => by
    intro cv s rows hl
    obtain ⟨cv', rows', h1, h2, h5⟩ := ha id cv s rows hl
    obtain ⟨h3, h4⟩ := h _ _ _ h1
    exact ⟨Nat.le_trans h3 h2, fun e => by rw [(h5 (by omega)).2]; exact h4 (by omega)⟩
  | .loc id off, v, h => by
    intro cells hl
    obtain ⟨cells', h1, h2⟩ := hb id cells hl
    rw [h2]
    exact h _ h1
  | .eloc id ver i off, v, h => by
    intro cv s rows hl
    obtain ⟨cv', rows', h1, h2, h5⟩ := ha id cv s rows hl
    obtain ⟨h3, h4⟩ := h _ _ _ h1
    refine ⟨Nat.le_trans h3 h2, fun e => ?_⟩
    obtain ⟨b, cap, h6, h7⟩ := h4 (by omega)
    obtain ⟨h8, h9⟩ := h5 (by omega)
    exact ⟨b, cap, by rw [h9, h6, h8], h7⟩
  | .view id ver lo hi, v, h => by
    intro cv s rows hl
    obtain ⟨cv', rows', h1, h2, h5⟩ := ha id cv s rows hl
    obtain ⟨h3, h4⟩ := h _ _ _ h1
    refine ⟨Nat.le_trans h3 h2, fun e => ?_⟩
    obtain ⟨g1, g2, x, cap, y, g3, g4⟩ := h4 (by omega)
    obtain ⟨h8, h9⟩ := h5 (by omega)
    exact ⟨g1, by omega, x, cap, y, by rw [h9, g3, h8], by rw [← h8]; exact g4⟩
  | .agg cells, v, ⟨vs, h1, h2⟩ => ⟨vs, h1, SVOnes.same hb ha hi ht cells _ h2⟩
  | .clo f caps, v, ⟨vs, h1, h2⟩ => ⟨vs, h1, SVList.same hb ha hi ht caps _ h2⟩
  | .bdl f caps, v, ⟨vs, h1, h2⟩ => ⟨vs, h1, SVList.same hb ha hi ht caps _ h2⟩
  | .tup caps, v, ⟨vs, h1, h2⟩ => ⟨vs, h1, SVList.same hb ha hi ht caps _ h2⟩
  | .ifc t x, v, ⟨u, h1, h2⟩ => ⟨u, h1, SVRel.same hb ha hi ht x u h2⟩
  | .anyB, v, h => h
  | .selfN id t nn, v, h => by
    intro cells hl
    obtain ⟨cells', h1, h2⟩ := hb id cells hl
    rw [h2]
    exact h _ h1
  | .ownT id ver t, v, ⟨h, h'⟩ => by
    refine ⟨?_, h'⟩
    intro cv s rows hl
    obtain ⟨cv', rows', h1, h2, h5⟩ := ha id cv s rows hl
    obtain ⟨h3, h4⟩ := h _ _ _ h1
    exact ⟨Nat.le_trans h3 h2, fun e => by rw [(h5 (by omega)).2]; exact h4 (by omega)⟩
  | .itr id, v, h => by
    intro s p hl
    obtain ⟨s', p', h1, h2⟩ := hi id s p hl
    rw [h2]
    exact h _ _ h1
  | .nilT, v, h => h
  | .emp _, v, h => h
  | .town id ver, v, h => by
    intro cv s rows ln hl
    obtain ⟨cv', rows', ln', h1, h2, h5⟩ := ht id cv s rows ln hl
    obtain ⟨h3, h4⟩ := h _ _ _ _ h1
    exact ⟨Nat.le_trans h3 h2, fun e => by rw [(h5 (by omega)).2]; exact h4 (by omega)⟩
  | .teloc id ver i off, v, h => by
    intro cv s rows ln hl
    obtain ⟨cv', rows', ln', h1, h2, h5⟩ := ht id cv s rows ln hl
    obtain ⟨h3, h4⟩ := h _ _ _ _ h1
    refine ⟨Nat.le_trans h3 h2, fun e => ?_⟩
    obtain ⟨b, cap, h6, h7⟩ := h4 (by omega)
    obtain ⟨h8, h9⟩ := h5 (by omega)
    exact ⟨b, cap, by rw [h9, h6, h8], h7⟩
theorem SVList.same {w : World} {S : Stab} {μ μ' : Nat → Value} {objs objs' : List (Nat × Ob)}
    (hb : ∀ id cells, look objs' id = some (.box cells) → ∃ cells', look objs id = some (.box cells') ∧ μ' id = μ id)
    (ha : ∀ id cv s rows, look objs' id = some (.arr cv s rows) → ∃ cv' rows', look objs id = some (.arr cv' s rows') ∧ cv' ≤ cv ∧ (cv' = cv → rows'.length = rows.length ∧ μ' id = μ id))
    (hi : ∀ id s p, look objs' id = some (.iter s p) → ∃ s' p', look objs id = some (.iter s' p') ∧ μ' id = μ id)
    (ht : ∀ id cv s rows ln, look objs' id = some (.tab cv s rows ln) → ∃ cv' rows' ln', look objs id = some (.tab cv' s rows' ln') ∧ cv' ≤ cv ∧ (cv' = cv → rows'.length = rows.length ∧ μ' id = μ id)) :
    ∀ (x : List SV) (v : List Value), SVList w S μ objs x v → SVList w S μ' objs' x v
  | [], v, h => h
  | x :: xs, v, ⟨u, us, h1, h2, h3⟩ => ⟨u, us, h1, SVRel.same hb ha hi ht x u h2, SVList.same hb ha hi ht xs us h3⟩
theorem SVOnes.same {w : World} {S : Stab} {μ μ' : Nat → Value} {objs objs' : List (Nat × Ob)}
    (hb : ∀ id cells, look objs' id = some (.box cells) → ∃ cells', look objs id = some (.box cells') ∧ μ' id = μ id)
    (ha : ∀ id cv s rows, look objs' id = some (.arr cv s rows) → ∃ cv' rows', look objs id = some (.arr cv' s rows') ∧ cv' ≤ cv ∧ (cv' = cv → rows'.length = rows.length ∧ μ' id = μ id))
    (hi : ∀ id s p, look objs' id = some (.iter s p) → ∃ s' p', look objs id = some (.iter s' p') ∧ μ' id = μ id)
    (ht : ∀ id cv s rows ln, look objs' id = some (.tab cv s rows ln) → ∃ cv' rows' ln', look objs id = some (.tab cv' s rows' ln') ∧ cv' ≤ cv ∧ (cv' = cv → rows'.length = rows.length ∧ μ' id = μ id)) :
    ∀ (x : List SV) (v : List Value), SVOnes w S μ objs x v → SVOnes w S μ' objs' x v
  | [], v, h => h
  | x :: xs, v, ⟨u, us, h1, h0, h2, h3⟩ => ⟨u, us, h1, h0, SVRel.same hb ha hi ht x u h2, SVOnes.same hb ha hi ht xs us h3⟩
end

theorem noRefLn_erase (d : Nat) : ∀ l : List (Nat × Nat × SV), noRefLn d (eraseLn d l) = true
  | [] => rfl
  | p :: r => by simp [eraseLn, noRefLn, SV.noRef_erase, noRefLn_erase d r]
theorem LnRel.mono {w w' : World} {S S' : Stab} (hk : Keeps S w w') (hs : ∀ b o, S b o → S' b o) {μ : Nat → Value} {objs : List (Nat × Ob)} {s n : Nat} {vs : List Value} : ∀ {l : List (Nat × Nat × SV)}, LnRel w S μ objs s n vs l → LnRel w' S' μ objs s n vs l
  | [], h => h
  | _ :: _, ⟨⟨h1, h2, v, h3, h4⟩, h5⟩ => ⟨⟨h1, h2, v, h3, SVRel.mono hk hs _ _ h4⟩, LnRel.mono hk hs h5⟩
theorem LnRel.other {w : World} {S : Stab} {μ μ' : Nat → Value} {objs objs' : List (Nat × Ob)} {d : Nat} (hμ : ∀ id, id ≠ d → μ' id = μ id) (ho : ∀ id, id ≠ d → look objs' id = look objs id) {s n : Nat} {vs : List Value} : ∀ {l : List (Nat × Nat × SV)}, noRefLn d l = true → LnRel w S μ objs s n vs l → LnRel w S μ' objs' s n vs l
  | [], _, h => h
  | _ :: _, hn, ⟨⟨h1, h2, v, h3, h4⟩, h5⟩ => by
    simp only [noRefLn, Bool.and_eq_true] at hn
    exact ⟨⟨h1, h2, v, h3, SVRel.other hμ ho _ _ hn.1 h4⟩, LnRel.other hμ ho hn.2 h5⟩
theorem LnRel.erase {w : World} {S : Stab} {μ : Nat → Value} {objs : List (Nat × Ob)} (d : Nat) {s n : Nat} {vs : List Value} : ∀ {l : List (Nat × Nat × SV)}, LnRel w S μ objs s n vs l → LnRel w S μ objs s n vs (eraseLn d l)
  | [], h => h
  | _ :: _, ⟨⟨h1, h2, v, h3, h4⟩, h5⟩ => ⟨⟨h1, h2, v, h3, SVRel.erase d h4⟩, LnRel.erase d h5⟩
theorem LnRel.same {w : World} {S : Stab} {μ μ' : Nat → Value} {objs objs' : List (Nat × Ob)}
    (hb : ∀ id cells, look objs' id = some (.box cells) → ∃ cells', look objs id = some (.box cells') ∧ μ' id = μ id)
    (ha : ∀ id cv s rows, look objs' id = some (.arr cv s rows) → ∃ cv' rows', look objs id = some (.arr cv' s rows') ∧ cv' ≤ cv ∧ (cv' = cv → rows'.length = rows.length ∧ μ' id = μ id))
    (hi : ∀ id s p, look objs' id = some (.iter s p) → ∃ s' p', look objs id = some (.iter s' p') ∧ μ' id = μ id)
    (ht : ∀ id cv s rows ln, look objs' id = some (.tab cv s rows ln) → ∃ cv' rows' ln', look objs id = some (.tab cv' s rows' ln') ∧ cv' ≤ cv ∧ (cv' = cv → rows'.length = rows.length ∧ μ' id = μ id))
    {s n : Nat} {vs : List Value} : ∀ {l : List (Nat × Nat × SV)}, LnRel w S μ objs s n vs l → LnRel w S μ' objs' s n vs l
  | [], h => h
  | _ :: _, ⟨⟨h1, h2, v, h3, h4⟩, h5⟩ => ⟨⟨h1, h2, v, h3, SVRel.same hb ha hi ht _ _ h4⟩, LnRel.same hb ha hi ht h5⟩
theorem LnRel.vals {w : World} {S : Stab} {μ : Nat → Value} {objs : List (Nat × Ob)} {s n n' : Nat} {vs vs' : List Value} (hn : n ≤ n') (hv : ∀ i j, i < n → j < s → vs'[i * s + j]? = vs[i * s + j]?) : ∀ {l : List (Nat × Nat × SV)}, LnRel w S μ objs s n vs l → LnRel w S μ objs s n' vs' l
  | [], h => h
  | _ :: _, ⟨⟨h1, h2, v, h3, h4⟩, h5⟩ => ⟨⟨Nat.lt_of_lt_of_le h1 hn, h2, v, (hv _ _ h1 h2).trans h3, h4⟩, LnRel.vals hn hv h5⟩

end Go.Vs
set_option linter.unusedVariables false
set_option linter.unusedSimpArgs false
namespace Go.Vs

theorem IV.one_oneCell {w : World} {S : Stab} : ∀ {x : IV} {v : Value}, x.one = true → Rep w S x v → v.oneCell' = true
  | .int _ _, _, _, h => by subst h; rfl
  | .bool _, _, _, h => by subst h; rfl
  | .str _, _, _, h => by subst h; rfl
  | .nilp, _, _, h => by subst h; rfl
  | .ref _, _, _, ⟨_, _, h, _⟩ => by subst h; rfl
  | .slice _, _, _, ⟨_, _, h, _⟩ => by subst h; rfl
  | .nilf, _, _, h => by subst h; rfl
  | .yld _, _, _, h => by subst h; rfl
  | .fn _ _, _, _, ⟨_, h, _⟩ => by subst h; rfl
  | .bnd _ _, _, _, ⟨_, h, _⟩ => by subst h; rfl
  | .nili, _, _, h => by subst h; rfl
  | .handle _ _ _, _, _, h => by have h : _ = _ := h; subst h; rfl
  | .nilS, _, _, h => by have h : _ = _ := h; subst h; rfl
  | .iface _ _, _, _, ⟨_, h, _⟩ => by subst h; rfl
  | .agg _, _, h, _ => by simp [IV.one] at h
  | .tuple _, _, h, _ => by simp [IV.one] at h

theorem IV.oneCell_one {w : World} {S : Stab} : ∀ {x : IV} {v : Value}, v.oneCell' = true → Rep w S x v → x.one = true
  | .int _ _, _, _, _ => rfl
  | .bool _, _, _, _ => rfl
  | .str _, _, _, _ => rfl
  | .nilp, _, _, _ => rfl
  | .ref _, _, _, _ => rfl
  | .slice _, _, _, _ => rfl
  | .nilf, _, _, _ => rfl
  | .yld _, _, _, _ => rfl
  | .fn _ _, _, _, _ => rfl
  | .bnd _ _, _, _, _ => rfl
  | .nili, _, _, _ => rfl
  | .handle _ _ _, _, _, _ => rfl
  | .nilS, _, _, _ => rfl
  | .iface _ _, _, _, _ => rfl
  | .agg _, _, h, ⟨_, h1, _⟩ => by subst h1; simp [Value.oneCell'] at h
  | .tuple _, _, h, ⟨_, h1, _⟩ => by subst h1; simp [Value.oneCell'] at h

section lists
variable {w : World} {S : Stab}

theorem RepOnes.length : ∀ {xs : List IV} {vs : List Value}, RepOnes w S xs vs → vs.length = xs.length
  | [], _, h => by have h : _ = _ := h; subst h; rfl
  | _ :: _, _, ⟨_, _, h1, _, _, h3⟩ => by subst h1; simp [RepOnes.length h3]
theorem RepOnes.append : ∀ {xs ys : List IV} {us vs : List Value}, RepOnes w S xs us → RepOnes w S ys vs → RepOnes w S (xs ++ ys) (us ++ vs)
  | [], _, _, _, h, k => by have h : _ = _ := h; subst h; exact k
  | _ :: _, _, _, _, ⟨u, us', h1, h0, h2, h3⟩, k => by subst h1; exact ⟨u, us' ++ _, rfl, h0, h2, RepOnes.append h3 k⟩
theorem RepOnes.drop : ∀ (n : Nat) {xs : List IV} {vs : List Value}, RepOnes w S xs vs → RepOnes w S (xs.drop n) (vs.drop n)
  | 0, _, _, h => h
  | _ + 1, [], _, h => by have h : _ = _ := h; subst h; rfl
  | n + 1, _ :: _, _, ⟨_, _, h1, _, _, h3⟩ => by subst h1; exact RepOnes.drop n h3
theorem RepOnes.take : ∀ (n : Nat) {xs : List IV} {vs : List Value}, RepOnes w S xs vs → RepOnes w S (xs.take n) (vs.take n)
  | 0, _, _, _ => rfl
  | _ + 1, [], _, h => by have h : _ = _ := h; subst h; rfl
  | n + 1, _ :: _, _, ⟨u, _, h1, h0, h2, h3⟩ => by subst h1; exact ⟨u, _, rfl, h0, h2, RepOnes.take n h3⟩
theorem RepOnes.get : ∀ {xs : List IV} {vs : List Value} {j : Nat} {x : IV}, RepOnes w S xs vs → xs[j]? = some x → ∃ v, vs[j]? = some v ∧ x.one = true ∧ Rep w S x v
  | [], _, _, _, _, k => by simp at k
  | y :: _, _, 0, x, ⟨u, us, h1, h0, h2, _⟩, k => by
    subst h1
    have : y = x := by simpa using k
    subst this; exact ⟨u, rfl, h0, h2⟩
  | _ :: _, _, j + 1, _, ⟨_, us, h1, _, _, h3⟩, k => by
    subst h1
    obtain ⟨v, h4, h5⟩ := RepOnes.get (j := j) h3 (by simpa using k)
    exact ⟨v, by simpa using h4, h5⟩
theorem RepOnes.set : ∀ {xs : List IV} {vs : List Value} (j : Nat) {x : IV} {v : Value}, RepOnes w S xs vs → x.one = true → Rep w S x v → RepOnes w S (xs.set j x) (vs.set j v)
  | [], _, _, _, _, h, _, _ => by have h : _ = _ := h; subst h; rfl
  | _ :: _, _, 0, _, v, ⟨_, us, h1, _, _, h3⟩, k0, k => by subst h1; exact ⟨v, us, rfl, k0, k, h3⟩
  | _ :: _, _, j + 1, _, _, ⟨u, us, h1, h0, h2, h3⟩, k0, k => by subst h1; exact ⟨u, _, rfl, h0, h2, RepOnes.set j h3 k0 k⟩
theorem RepOnes.oneCells : ∀ {xs : List IV} {vs : List Value}, RepOnes w S xs vs → ∀ v ∈ vs, v.oneCell' = true
  | [], _, h => by have h : _ = _ := h; subst h; simp
  | _ :: _, _, ⟨u, us, h1, h0, h2, h3⟩ => by
    subst h1
    intro v hv
    rcases List.mem_cons.1 hv with rfl | hv
    · exact IV.one_oneCell h0 h2
    · exact RepOnes.oneCells h3 v hv
theorem RepOnes.ones : ∀ {xs : List IV} {vs : List Value}, RepOnes w S xs vs → ∀ x ∈ xs, x.one = true
  | [], _, _ => by simp
  | _ :: _, _, ⟨u, us, h1, h0, h2, h3⟩ => by
    intro x hx
    rcases List.mem_cons.1 hx with rfl | hx
    · exact h0
    · exact RepOnes.ones h3 x hx

theorem RepList.length : ∀ {xs : List IV} {vs : List Value}, RepList w S xs vs → vs.length = xs.length
  | [], _, h => by have h : _ = _ := h; subst h; rfl
  | _ :: _, _, ⟨_, _, h1, _, h3⟩ => by subst h1; simp [RepList.length h3]
theorem RepList.get : ∀ {xs : List IV} {vs : List Value} {j : Nat} {x : IV}, RepList w S xs vs → xs[j]? = some x → ∃ v, vs[j]? = some v ∧ Rep w S x v
  | [], _, _, _, _, k => by simp at k
  | y :: _, _, 0, x, ⟨u, us, h1, h2, _⟩, k => by
    subst h1
    have : y = x := by simpa using k
    subst this; exact ⟨u, rfl, h2⟩
  | _ :: _, _, j + 1, _, ⟨_, us, h1, _, h3⟩, k => by
    subst h1
    obtain ⟨v, h4, h5⟩ := RepList.get (j := j) h3 (by simpa using k)
    exact ⟨v, by simpa using h4, h5⟩

/-- The cells' values. -/
theorem SVList.get {μ : Nat → Value} {objs : List (Nat × Ob)} : ∀ {xs : List SV} {vs : List Value} {j : Nat} {x : SV}, SVList w S μ objs xs vs → xs[j]? = some x → ∃ v, vs[j]? = some v ∧ SVRel w S μ objs x v
  | [], _, _, _, _, hx => by simp at hx
  | _ :: _, _, 0, _, ⟨v, vs', h1, h2, _⟩, hx => by
    subst h1
    obtain rfl := Option.some.inj hx
    exact ⟨v, rfl, h2⟩
  | _ :: xs, _, j + 1, x, ⟨v, vs', h1, _, h3⟩, hx => by
    subst h1
    obtain ⟨u, h4, h5⟩ := SVList.get (xs := xs) (j := j) h3 hx
    exact ⟨u, h4, h5⟩

theorem RepCells.vals : ∀ {xs : List IV} {blk off : Nat}, RepCells w S xs blk off → ∃ vs, RepOnes w S xs vs ∧ ∀ j v, vs[j]? = some v → w.cell? ⟨blk, off + j, none⟩ = some v
  | [], _, _, _ => ⟨[], rfl, by simp⟩
  | x :: xs, blk, off, ⟨_, h2, ⟨v, h3, h4⟩, h5⟩ => by
    obtain ⟨vs, h6, h7⟩ := RepCells.vals h5
    refine ⟨v :: vs, ⟨v, vs, rfl, h2, h4, h6⟩, ?_⟩
    intro j u hj
    cases j with
    | zero => simp at hj; subst hj; exact h3
    | succ j => have := h7 j u (by simpa using hj); rwa [show off + 1 + j = off + (j + 1) by omega] at this
theorem RepCells.intro : ∀ {xs : List IV} {vs : List Value} {blk off : Nat}, RepOnes w S xs vs → (∀ j, j < xs.length → S blk (off + j)) →
    (∀ j v, vs[j]? = some v → w.cell? ⟨blk, off + j, none⟩ = some v) → RepCells w S xs blk off
  | [], _, _, _, _, _, _ => trivial
  | x :: xs, _, blk, off, ⟨v, vs, h1, h0, h2, h3⟩, hS, hc => by
    subst h1
    refine ⟨hS 0 (by simp), h0, ⟨v, hc 0 v rfl, h2⟩, RepCells.intro h3 (fun j hj => ?_) (fun j u hj => ?_)⟩
    · have := hS (j + 1) (by simp; omega); rwa [show off + (j + 1) = off + 1 + j by omega] at this
    · have := hc (j + 1) u (by simpa using hj); rwa [show off + (j + 1) = off + 1 + j by omega] at this
theorem RepCells.drop : ∀ (n : Nat) {xs : List IV} {blk off : Nat}, RepCells w S xs blk off → RepCells w S (xs.drop n) blk (off + n)
  | 0, _, _, _, h => h
  | _ + 1, [], _, _, _ => trivial
  | n + 1, _ :: _, _, off, ⟨_, _, _, h⟩ => by
    have := RepCells.drop n h
    rwa [show off + 1 + n = off + (n + 1) by omega] at this
theorem RepCells.take : ∀ (n : Nat) {xs : List IV} {blk off : Nat}, RepCells w S xs blk off → RepCells w S (xs.take n) blk off
  | 0, _, _, _, _ => trivial
  | _ + 1, [], _, _, _ => trivial
  | n + 1, _ :: _, _, _, ⟨h1, h2, h3, h4⟩ => ⟨h1, h2, h3, RepCells.take n h4⟩
theorem RepCells.append : ∀ {xs ys : List IV} {blk off : Nat}, RepCells w S xs blk off → RepCells w S ys blk (off + xs.length) → RepCells w S (xs ++ ys) blk off
  | [], _, _, _, _, k => k
  | _ :: xs, _, blk, off, ⟨h1, h2, h3, h4⟩, k => ⟨h1, h2, h3, RepCells.append h4 (by rw [show off + 1 + xs.length = off + (xs.length + 1) by omega]; exact k)⟩

theorem RepRows.get : ∀ {rows : List (List IV)} {s blk off i : Nat} {r : List IV}, RepRows w S rows s blk off → rows[i]? = some r → r.length = s ∧ RepCells w S r blk (off + i * s)
  | [], _, _, _, _, _, _, k => by simp at k
  | r' :: rs, s, blk, off, 0, r, ⟨h1, h2, _⟩, k => by
    have : r' = r := by simpa using k
    subst this; exact ⟨h1, by simpa using h2⟩
  | _ :: rs, s, blk, off, i + 1, r, ⟨_, _, h3⟩, k => by
    have := RepRows.get (i := i) h3 (by simpa using k)
    rwa [show off + s + i * s = off + (i + 1) * s by rw [Nat.add_mul]; omega] at this
theorem RepRows.lens : ∀ {rows : List (List IV)} {s blk off : Nat}, RepRows w S rows s blk off → ∀ r ∈ rows, r.length = s
  | [], _, _, _, _ => by simp
  | _ :: _, _, _, _, ⟨h1, _, h3⟩ => by
    intro r hr
    rcases List.mem_cons.1 hr with rfl | hr
    · exact h1
    · exact RepRows.lens h3 r hr
theorem RepRows.drop : ∀ (n : Nat) {rows : List (List IV)} {s blk off : Nat}, RepRows w S rows s blk off → RepRows w S (rows.drop n) s blk (off + n * s)
  | 0, _, _, _, _, h => by simpa using h
  | _ + 1, [], _, _, _, _ => trivial
  | n + 1, _ :: _, s, _, off, ⟨_, _, h⟩ => by
    have := RepRows.drop n h
    rwa [show off + s + n * s = off + (n + 1) * s by rw [Nat.add_mul]; omega] at this
theorem RepRows.take : ∀ (n : Nat) {rows : List (List IV)} {s blk off : Nat}, RepRows w S rows s blk off → RepRows w S (rows.take n) s blk off
  | 0, _, _, _, _, _ => trivial
  | _ + 1, [], _, _, _, _ => trivial
  | n + 1, _ :: _, _, _, _, ⟨h1, h2, h3⟩ => ⟨h1, h2, RepRows.take n h3⟩
theorem RepRows.flat : ∀ {rows : List (List IV)} {s blk off : Nat}, RepRows w S rows s blk off → RepCells w S rows.flatten blk off
  | [], _, _, _, _ => trivial
  | r :: rs, s, blk, off, ⟨h1, h2, h3⟩ => by
    simp only [List.flatten_cons]
    exact RepCells.append h2 (by rw [h1]; exact RepRows.flat h3)
theorem RepRows.ofFlat : ∀ {rows : List (List IV)} {s blk off : Nat}, (∀ r ∈ rows, r.length = s) → RepCells w S rows.flatten blk off → RepRows w S rows s blk off
  | [], _, _, _, _, _ => trivial
  | r :: rs, s, blk, off, hl, h => by
    have h1 := hl r (by simp)
    simp only [List.flatten_cons] at h
    refine ⟨h1, ?_, RepRows.ofFlat (fun x hx => hl x (List.mem_cons_of_mem _ hx)) ?_⟩
    · have := RepCells.take r.length h; simpa using this
    · have := RepCells.drop r.length h; simpa [h1] using this
theorem flatten_length {α : Type} : ∀ {rows : List (List α)} {s : Nat}, (∀ r ∈ rows, r.length = s) → rows.flatten.length = rows.length * s
  | [], _, _ => by simp
  | r :: rs, s, h => by
    have h1 := h r (by simp)
    have h2 := flatten_length (rows := rs) (s := s) (fun x hx => h x (List.mem_cons_of_mem _ hx))
    simp only [List.flatten_cons, List.length_append, h1, h2, List.length_cons, Nat.add_mul]; omega

variable {μ : Nat → Value} {objs : List (Nat × Ob)}
theorem SVOnes.length : ∀ {xs : List SV} {vs : List Value}, SVOnes w S μ objs xs vs → vs.length = xs.length
  | [], _, h => by have h : _ = _ := h; subst h; rfl
  | _ :: _, _, ⟨_, _, h1, _, _, h3⟩ => by subst h1; simp [SVOnes.length h3]
theorem SVOnes.append : ∀ {xs ys : List SV} {us vs : List Value}, SVOnes w S μ objs xs us → SVOnes w S μ objs ys vs → SVOnes w S μ objs (xs ++ ys) (us ++ vs)
  | [], _, _, _, h, k => by have h : _ = _ := h; subst h; exact k
  | _ :: _, _, _, _, ⟨u, us', h1, h0, h2, h3⟩, k => by subst h1; exact ⟨u, us' ++ _, rfl, h0, h2, SVOnes.append h3 k⟩
theorem SVOnes.drop : ∀ (n : Nat) {xs : List SV} {vs : List Value}, SVOnes w S μ objs xs vs → SVOnes w S μ objs (xs.drop n) (vs.drop n)
  | 0, _, _, h => h
  | _ + 1, [], _, h => by have h : _ = _ := h; subst h; rfl
  | n + 1, _ :: _, _, ⟨_, _, h1, _, _, h3⟩ => by subst h1; exact SVOnes.drop n h3
theorem SVOnes.take : ∀ (n : Nat) {xs : List SV} {vs : List Value}, SVOnes w S μ objs xs vs → SVOnes w S μ objs (xs.take n) (vs.take n)
  | 0, _, _, _ => rfl
  | _ + 1, [], _, h => by have h : _ = _ := h; subst h; rfl
  | n + 1, _ :: _, _, ⟨u, _, h1, h0, h2, h3⟩ => by subst h1; exact ⟨u, _, rfl, h0, h2, SVOnes.take n h3⟩
theorem SVOnes.get : ∀ {xs : List SV} {vs : List Value} {j : Nat} {x : SV}, SVOnes w S μ objs xs vs → xs[j]? = some x → ∃ v, vs[j]? = some v ∧ v.oneCell' = true ∧ SVRel w S μ objs x v
  | [], _, _, _, _, k => by simp at k
  | y :: _, _, 0, x, ⟨u, us, h1, h0, h2, _⟩, k => by
    subst h1
    have : y = x := by simpa using k
    subst this; exact ⟨u, rfl, h0, h2⟩
  | _ :: _, _, j + 1, _, ⟨_, us, h1, _, _, h3⟩, k => by
    subst h1
    obtain ⟨v, h4, h5⟩ := SVOnes.get (j := j) h3 (by simpa using k)
    exact ⟨v, by simpa using h4, h5⟩
theorem SVOnes.set : ∀ {xs : List SV} {vs : List Value} (j : Nat) {x : SV} {v : Value}, SVOnes w S μ objs xs vs → v.oneCell' = true → SVRel w S μ objs x v → SVOnes w S μ objs (xs.set j x) (vs.set j v)
  | [], _, _, _, _, h, _, _ => by have h : _ = _ := h; subst h; rfl
  | _ :: _, _, 0, _, v, ⟨_, us, h1, _, _, h3⟩, k0, k => by subst h1; exact ⟨v, us, rfl, k0, k, h3⟩
  | _ :: _, _, j + 1, _, _, ⟨u, us, h1, h0, h2, h3⟩, k0, k => by subst h1; exact ⟨u, _, rfl, h0, h2, SVOnes.set j h3 k0 k⟩
theorem SVOnes.oneCells : ∀ {xs : List SV} {vs : List Value}, SVOnes w S μ objs xs vs → ∀ v ∈ vs, v.oneCell' = true
  | [], _, h => by have h : _ = _ := h; subst h; simp
  | _ :: _, _, ⟨u, us, h1, h0, _, h3⟩ => by
    subst h1
    intro v hv
    rcases List.mem_cons.1 hv with rfl | hv
    · exact h0
    · exact SVOnes.oneCells h3 v hv
theorem SVOnes.ofRep : ∀ {xs : List IV} {vs : List Value}, RepOnes w S xs vs → SVOnes w S μ objs (xs.map .val) vs
  | [], _, h => h
  | _ :: _, _, ⟨u, us, h1, h0, h2, h3⟩ => ⟨u, us, h1, IV.one_oneCell h0 h2, h2, SVOnes.ofRep h3⟩
end lists

/-- All immutable. -/
def allVal : List SV → Option (List IV)
  | [] => some []
  | .val v :: r => match allVal r with
    | some vs => some (v :: vs)
    | none => none
  | _ :: _ => none
theorem allVal_spec : ∀ {xs : List SV} {ys : List IV}, allVal xs = some ys → xs = ys.map .val
  | [], ys, h => by simp [allVal] at h; subst h; rfl
  | .val v :: r, ys, h => by
    simp only [allVal] at h
    split at h
    · next vs hv => simp at h; subst h; simp [allVal_spec hv]
    · simp at h
  | .undef :: _, _, h => by simp [allVal] at h
  | .nils :: _, _, h => by simp [allVal] at h
  | .full _ :: _, _, h => by simp [allVal] at h
  | .own _ _ :: _, _, h => by simp [allVal] at h
  | .loc _ _ :: _, _, h => by simp [allVal] at h
  | .eloc _ _ _ _ :: _, _, h => by simp [allVal] at h
  | .agg _ :: _, _, h => by simp [allVal] at h
  | .clo _ _ :: _, _, h => by simp [allVal] at h
  | .tup _ :: _, _, h => by simp [allVal] at h
  | .ifc _ _ :: _, _, h => by simp [allVal] at h
theorem SVOnes.toRep {w : World} {S : Stab} {μ : Nat → Value} {objs : List (Nat × Ob)} : ∀ {xs : List IV} {vs : List Value}, SVOnes w S μ objs (xs.map .val) vs → RepOnes w S xs vs
  | [], _, h => h
  | _ :: _, _, ⟨u, us, h1, h0, h2, h3⟩ => ⟨u, us, h1, IV.oneCell_one h0 h2, h2, SVOnes.toRep h3⟩

end Go.Vs
set_option linter.unusedVariables false
set_option linter.unusedSimpArgs false
namespace Go.Vs

theorem ObRel.move {w w' : World} {S S' : Stab} (hk : Keeps S w w') (hs : ∀ b o, S b o → S' b o) {μ : Nat → Value} {objs : List (Nat × Ob)} {blk : Option Nat} {mu : Value}
    (hb : ∀ b, blk = some b → w'.heap[b]? = w.heap[b]?) : ∀ {o : Ob}, ObRel w S μ objs blk mu o → ObRel w' S' μ objs blk mu o
  | .box _, ⟨b, vs, e, fr, h1, h2, h3, h0, h4⟩ => ⟨b, vs, e, fr, h1, h2, (hb b h1).trans h3, h0, SVOnes.mono hk hs _ _ h4⟩
  | .arr _ _ _, .inl h => .inl h
  | .arr _ _ _, .inr ⟨b, cap, vs, e, fr, h1, h2, h3, h0, h4, h5, h6, h7⟩ => .inr ⟨b, cap, vs, e, fr, h1, h2, (hb b h1).trans h3, h0, h4, h5, h6, RepOnes.mono hk hs _ _ h7⟩
  | .iter _ _, ⟨b, h1, h2, h3⟩ => ⟨b, h1, h2, (hb b h1).trans h3⟩
  | .tab _ _ _ _, .inl h => .inl h
  | .tab _ _ _ _, .inr ⟨b, cap, vs, e, fr, h1, h2, h3, h0, h4, h5, h6, h7, h8⟩ => .inr ⟨b, cap, vs, e, fr, h1, h2, (hb b h1).trans h3, h0, h4, h5, h6, RepOnes.mono hk hs _ _ h7, LnRel.mono hk hs h8⟩
theorem ObRel.other {w : World} {S : Stab} {μ μ' : Nat → Value} {objs objs' : List (Nat × Ob)} {d : Nat} (hμ : ∀ id, id ≠ d → μ' id = μ id) (ho : ∀ id, id ≠ d → look objs' id = look objs id)
    {blk : Option Nat} {mu : Value} : ∀ {o : Ob}, o.noRef d = true → ObRel w S μ objs blk mu o → ObRel w S μ' objs' blk mu o
  | .box _, hn, ⟨b, vs, e, fr, h1, h2, h3, h0, h4⟩ => ⟨b, vs, e, fr, h1, h2, h3, h0, SVOnes.other hμ ho _ _ hn h4⟩
  | .arr _ _ _, _, h => h
  | .iter _ _, _, h => h
  | .tab _ _ _ _, hn, .inl h => .inl h
  | .tab _ _ _ _, hn, .inr ⟨b, cap, vs, e, fr, h1, h2, h3, h0, h4, h5, h6, h7, h8⟩ => .inr ⟨b, cap, vs, e, fr, h1, h2, h3, h0, h4, h5, h6, h7, LnRel.other hμ ho hn h8⟩
theorem ObRel.erase {w : World} {S : Stab} {μ : Nat → Value} {objs : List (Nat × Ob)} {blk : Option Nat} {mu : Value} (d : Nat) : ∀ {o : Ob}, ObRel w S μ objs blk mu o → ObRel w S μ objs blk mu (o.erase d)
  | .box _, ⟨b, vs, e, fr, h1, h2, h3, h0, h4⟩ => ⟨b, vs, e, fr, h1, h2, h3, h0, SVOnes.erase d h4⟩
  | .arr _ _ _, h => h
  | .iter _ _, h => h
  | .tab _ _ _ _, .inl ⟨h1, h2, h3⟩ => .inl ⟨h1, by rw [h2]; rfl, h3⟩
  | .tab _ _ _ _, .inr ⟨b, cap, vs, e, fr, h1, h2, h3, h0, h4, h5, h6, h7, h8⟩ => .inr ⟨b, cap, vs, e, fr, h1, h2, h3, h0, h4, h5, h6, h7, LnRel.erase d h8⟩
theorem ObRel.same {w : World} {S : Stab} {μ μ' : Nat → Value} {objs objs' : List (Nat × Ob)}
    (hb : ∀ id cells, look objs' id = some (.box cells) → ∃ cells', look objs id = some (.box cells') ∧ μ' id = μ id)
    (ha : ∀ id cv s rows, look objs' id = some (.arr cv s rows) → ∃ cv' rows', look objs id = some (.arr cv' s rows') ∧ cv' ≤ cv ∧ (cv' = cv → rows'.length = rows.length ∧ μ' id = μ id))
    (hi : ∀ id s p, look objs' id = some (.iter s p) → ∃ s' p', look objs id = some (.iter s' p') ∧ μ' id = μ id)
    (ht : ∀ id cv s rows ln, look objs' id = some (.tab cv s rows ln) → ∃ cv' rows' ln', look objs id = some (.tab cv' s rows' ln') ∧ cv' ≤ cv ∧ (cv' = cv → rows'.length = rows.length ∧ μ' id = μ id))
    {blk : Option Nat} {mu : Value} : ∀ {o : Ob}, ObRel w S μ objs blk mu o → ObRel w S μ' objs' blk mu o
  | .box _, ⟨b, vs, e, fr, h1, h2, h3, h0, h4⟩ => ⟨b, vs, e, fr, h1, h2, h3, h0, SVOnes.same hb ha hi ht _ _ h4⟩
  | .arr _ _ _, h => h
  | .iter _ _, h => h
  | .tab _ _ _ _, .inl h => .inl h
  | .tab _ _ _ _, .inr ⟨b, cap, vs, e, fr, h1, h2, h3, h0, h4, h5, h6, h7, h8⟩ => .inr ⟨b, cap, vs, e, fr, h1, h2, h3, h0, h4, h5, h6, h7, LnRel.same hb ha hi ht h8⟩
theorem Ob.noRef_erase (d : Nat) : ∀ o : Ob, (o.erase d).noRef d = true
  | .box c => noRefs_eraseL d c
  | .arr _ _ _ => rfl
  | .iter _ _ => rfl
  | .tab _ _ _ ln => noRefLn_erase d ln

theorem Kept.refl (M : Nat → Prop) (w : World) : Kept M w w := ⟨rfl, rfl, rfl, Nat.le_refl _, fun _ _ _ => rfl, fun _ _ h => h⟩
theorem Kept.trans {M : Nat → Prop} {a b c : World} (h : Kept M a b) (k : Kept M b c) : Kept M a c :=
  ⟨k.os.trans h.os, k.tape.trans h.tape, k.output.trans h.output, Nat.le_trans h.size k.size, fun i hi hm => (k.block i (Nat.lt_of_lt_of_le hi h.size) hm).trans (h.block i hi hm), fun i x hx => k.shape _ _ (h.shape _ _ hx)⟩
theorem Kept.none {M : Nat → Prop} {a b : World} (h : Kept (fun _ => False) a b) : Kept M a b :=
  ⟨h.os, h.tape, h.output, h.size, fun i hi _ => h.block i hi (fun x => x), h.shape⟩
theorem heap_alloc_lt {w : World} {o : Go.Obj} {k : Nat} (h : k < w.heap.size) : (w.alloc o).heap[k]? = w.heap[k]? := by
  show (w.heap.push o)[k]? = _
  rw [Array.getElem?_push, if_neg (by omega)]
theorem heap_alloc_at (w : World) (o : Go.Obj) : (w.alloc o).heap[w.heap.size]? = some o := by
  show (w.heap.push o)[w.heap.size]? = _
  rw [Array.getElem?_push, if_pos rfl]
theorem cell_of_heap {w w' : World} {b : Nat} (h : w'.heap[b]? = w.heap[b]?) (o : Nat) : w'.cell? ⟨b, o, none⟩ = w.cell? ⟨b, o, none⟩ := by
  simp only [World.cell?, h]
theorem cell_row {w : World} {b : Nat} {vs : Array Value} {e : TypeId} {fr : Nat × Nat} (h : w.heap[b]? = some (.cells vs e fr)) (o : Nat) : w.cell? ⟨b, o, none⟩ = vs[o]? := by
  simp [World.cell?, h]

section sim
variable {w0 w : World} {S0 S : Stab} {M : Ctx} {σ : St} {a : Act} {μ : Nat → Value} {β : Nat → Option Nat}

theorem ObRel.live {blk : Option Nat} {mu : Value} {objs : List (Nat × Ob)} {o : Ob} {b : Nat} (hb : blk = some b) (h : ObRel w S μ objs blk mu o) : b < w.heap.size := by
  have lt : ∀ {x : Go.Obj}, w.heap[b]? = some x → b < w.heap.size := fun hx => by
    rcases Nat.lt_or_ge b w.heap.size with h | h
    · exact h
    · simp [Array.getElem?_eq_none h] at hx
  cases o with
  | box c =>
    obtain ⟨b', vs, e, fr, h1, _, h3, _⟩ := h
    obtain rfl : b' = b := by rw [hb] at h1; exact (Option.some.inj h1).symm
    exact lt h3
  | arr v s rows =>
    rcases h with ⟨_, h1, _⟩ | ⟨b', cap, vs, e, fr, h1, _, h3, _⟩
    · rw [hb] at h1; simp at h1
    · obtain rfl : b' = b := by rw [hb] at h1; exact (Option.some.inj h1).symm
      exact lt h3
  | iter s p =>
    obtain ⟨b', h1, _, h3⟩ := h
    obtain rfl : b' = b := by rw [hb] at h1; exact (Option.some.inj h1).symm
    exact lt h3
  | tab v s rows ln =>
    rcases h with ⟨_, _, h1, _⟩ | ⟨b', cap, vs, e, fr, h1, _, h3, _⟩
    · rw [hb] at h1; simp at h1
    · obtain rfl : b' = b := by rw [hb] at h1; exact (Option.some.inj h1).symm
      exact lt h3

/-- A slot. -/
theorem SimG.put (h : SimG w0 S0 M σ a w S μ β) {d : Nat} {sv : SV} {v : Value} (hd : d < σ.n) (hv : SVRel w S μ σ.objs sv v) :
    SimG w0 S0 M { σ with env := put σ.env d sv } (a.put (some d) v) w S μ β :=
  { h with
    defers := h.defers
    size := by simpa [Act.put] using h.size
    env := fun k => by
      show SVRel w S μ σ.objs (getE (Vs.put σ.env d sv) k) ((a.tmps.setIfInBounds d v).getD k Go.undef)
      rw [getE_put]
      by_cases hk : k = d
      · subst hk
        have : k < a.tmps.size := by rw [h.size]; exact hd
        simpa [this] using hv
      · have := h.env k
        rw [if_neg hk]
        have hne : d ≠ k := fun e => hk e.symm
        simpa [Array.getElem?_setIfInBounds_ne hne] using this }

/-- The world goes on, and with it the stable cells; no object turns. -/
theorem SimG.world (h : SimG w0 S0 M σ a w S μ β) {w' : World} {S' : Stab} (hk : Keeps S w w') (hs : ∀ b o, S b o → S' b o)
    (hblk : ∀ id o b, look σ.objs id = some o → β id = some b → w'.heap[b]? = w.heap[b]?)
    (hun : ∀ id o b off, look σ.objs id = some o → β id = some b → S' b off → S b off)
    (hst : ∀ b o, S' b o → b < w'.heap.size) (hback : ∀ b o, S' b o → S b o ∨ w0.heap.size ≤ b ∨ M.blocks b) (hkept : Kept M.blocks w0 w') :
    SimG w0 S0 M σ a w' S' μ β where
  defers := h.defers
  size := h.size
  env := fun k => SVRel.mono hk hs _ _ (h.env k)
  objs := fun id o ho => ObRel.move hk hs (fun b hb => hblk id o b ho hb) (h.objs id o ho)
  inj := h.inj
  own := h.own
  unst := fun id o b off ho hb hS => h.unst id o b off ho hb (hun id o b off ho hb hS)
  stab := hst
  ext := fun b o hb => hs b o (h.ext b o hb)
  back := fun b o hb => (hback b o hb).elim (h.back b o) .inr
  kept := hkept
  stay := fun b o hb => (hk.1 b o (h.ext b o hb)).trans (h.stay b o hb)
  hist := fun p hp => SVRel.mono hk hs _ _ (h.hist p hp)
  far := h.far
  glob := fun p hp => RepGl.mono hk hs (h.glob p hp)

/-- A new object. -/
theorem SimG.create' (h : SimG w0 S0 M σ a w S μ β) (d : Nat) (hdn : d < σ.n) (o : Ob) (blk : Option Nat) (mu : Value) {w' : World}
    (hw : Kept (fun _ => False) w w') (hblk : ∀ b, blk = some b → w0.heap.size ≤ b ∧ (∀ off, ¬ S b off) ∧ ∀ id o, look σ.objs id = some o → β id ≠ some b)
    (hob : ObRel w' S μ σ.objs blk mu o) :
    SimG w0 S0 M { σ with env := eraseE d σ.env, objs := eraseO d (Vs.put σ.objs d o) } a w' S (fun id => if id = d then mu else μ id) (fun id => if id = d then blk else β id) := by
  have hheap : ∀ k, k < w.heap.size → w'.heap[k]? = w.heap[k]? := fun k hk => hw.block k hk (fun x => x)
  have hsize : w.heap.size ≤ w'.heap.size := hw.size
  have hkeeps : Keeps S w w' := ⟨fun b off hS => cell_of_heap (hheap b (h.stab b off hS)) off, hw.shape⟩
  have hkept : Kept M.blocks w w' := hw.none
  have hμ : ∀ id, id ≠ d → (fun id => if id = d then mu else μ id) id = μ id := fun id hid => if_neg hid
  have hlook : ∀ id, look (eraseO d (Vs.put σ.objs d o)) id = if id = d then some (o.erase d) else (look σ.objs id).map (Ob.erase d) := by
    intro id
    rw [look_eraseO, look_put]
    split <;> rfl
  have hbk : ∀ id x b, look σ.objs id = some x → β id = some b → b < w.heap.size := fun id x b hx hb => ObRel.live hb (h.objs id x hx)
  -- handles do not see that objects' cells are erased
  have hbx : ∀ (ob : List (Nat × Ob)) id cells, (look ob id).map (Ob.erase d) = some (.box cells) → ∃ cells', look ob id = some (.box cells') := by
    intro ob id cells hc
    cases hl : look ob id with
    | none => rw [hl] at hc; simp at hc
    | some y =>
      rw [hl] at hc
      cases y with
      | box c => exact ⟨c, rfl⟩
      | arr => simp [Ob.erase] at hc
      | iter => simp [Ob.erase] at hc
      | tab => simp [Ob.erase] at hc
  have har : ∀ (ob : List (Nat × Ob)) id cv s rows, (look ob id).map (Ob.erase d) = some (.arr cv s rows) → look ob id = some (.arr cv s rows) := by
    intro ob id cv s rows hc
    cases hl : look ob id with
    | none => rw [hl] at hc; simp at hc
    | some y =>
      rw [hl] at hc
      cases y with
      | box c => simp [Ob.erase] at hc
      | arr => simpa [Ob.erase] using hc
      | iter => simp [Ob.erase] at hc
      | tab => simp [Ob.erase] at hc
  have htr : ∀ (ob : List (Nat × Ob)) id cv s rows ln, (look ob id).map (Ob.erase d) = some (.tab cv s rows ln) → ∃ ln', look ob id = some (.tab cv s rows ln') := by
    intro ob id cv s rows ln hc
    cases hl : look ob id with
    | none => rw [hl] at hc; simp at hc
    | some y =>
      rw [hl] at hc
      cases y with
      | box c => simp [Ob.erase] at hc
      | arr => simp [Ob.erase] at hc
      | iter => simp [Ob.erase] at hc
      | tab v s' r l =>
        simp only [Option.map_some, Ob.erase, Option.some.injEq, Ob.tab.injEq] at hc
        obtain ⟨rfl, rfl, rfl, _⟩ := hc
        exact ⟨l, rfl⟩
  have hir : ∀ (ob : List (Nat × Ob)) id s p, (look ob id).map (Ob.erase d) = some (.iter s p) → look ob id = some (.iter s p) := by
    intro ob id s p hc
    cases hl : look ob id with
    | none => rw [hl] at hc; simp at hc
    | some y =>
      rw [hl] at hc
      cases y with
      | box c => simp [Ob.erase] at hc
      | arr => simp [Ob.erase] at hc
      | iter => simpa [Ob.erase] using hc
      | tab => simp [Ob.erase] at hc
  have s1 : ∀ x v, SVRel w' S μ σ.objs x v → SVRel w' S μ (eraseO d σ.objs) x v := SVRel.same
    (fun id cells hc => by rw [look_eraseO] at hc; obtain ⟨c, h1⟩ := hbx _ _ _ hc; exact ⟨c, h1, rfl⟩)
    (fun id cv s rows hc => by rw [look_eraseO] at hc; exact ⟨cv, rows, har _ _ _ _ _ hc, Nat.le_refl _, fun _ => ⟨rfl, rfl⟩⟩)
    (fun id s p hc => by rw [look_eraseO] at hc; exact ⟨s, p, hir _ _ _ _ hc, rfl⟩)
    (fun id cv s rows ln hc => by rw [look_eraseO] at hc; obtain ⟨l, h1⟩ := htr _ _ _ _ _ _ hc; exact ⟨cv, rows, l, h1, Nat.le_refl _, fun _ => ⟨rfl, rfl⟩⟩)
  have so : ∀ {bk m x}, ObRel w' S μ σ.objs bk m x → ObRel w' S μ (eraseO d σ.objs) bk m x := ObRel.same
    (fun id cells hc => by rw [look_eraseO] at hc; obtain ⟨c, h1⟩ := hbx _ _ _ hc; exact ⟨c, h1, rfl⟩)
    (fun id cv s rows hc => by rw [look_eraseO] at hc; exact ⟨cv, rows, har _ _ _ _ _ hc, Nat.le_refl _, fun _ => ⟨rfl, rfl⟩⟩)
    (fun id s p hc => by rw [look_eraseO] at hc; exact ⟨s, p, hir _ _ _ _ hc, rfl⟩)
    (fun id cv s rows ln hc => by rw [look_eraseO] at hc; obtain ⟨l, h1⟩ := htr _ _ _ _ _ _ hc; exact ⟨cv, rows, l, h1, Nat.le_refl _, fun _ => ⟨rfl, rfl⟩⟩)
  have hoth : ∀ id, id ≠ d → look (eraseO d (Vs.put σ.objs d o)) id = look (eraseO d σ.objs) id := by
    intro id hid
    rw [hlook, if_neg hid, look_eraseO]
  refine { defers := h.defers, size := h.size, env := ?_, objs := ?_, inj := ?_, own := ?_, unst := ?_, stab := ?_, ext := h.ext, back := h.back, kept := h.kept.trans hkept, stay := fun b o hb => (hkeeps.1 b o (h.ext b o hb)).trans (h.stay b o hb), hist := ?_, far := h.far, glob := fun p hp => RepGl.mono hkeeps (fun _ _ x => x) (h.glob p hp) }
  rotate_right 1
  · intro p hp
    exact SVRel.other hμ hoth _ _ (h.far p hp d hdn) (s1 _ _ (SVRel.mono hkeeps (fun _ _ x => x) _ _ (h.hist p hp)))
  · intro k
    show SVRel _ _ _ _ (getE (eraseE d σ.env) k) _
    rw [getE_eraseE]
    exact SVRel.other hμ hoth _ _ (SV.noRef_erase d _) (s1 _ _ (SVRel.erase d (SVRel.mono hkeeps (fun _ _ x => x) _ _ (h.env k))))
  · intro id x hx
    rw [hlook] at hx
    by_cases hid : id = d
    · subst hid
      rw [if_pos rfl] at hx
      obtain rfl := Option.some.inj hx
      simp only [if_pos]
      exact ObRel.other hμ hoth (Ob.noRef_erase _ _) (ObRel.erase _ (so hob))
    · rw [if_neg hid] at hx
      cases hl : look σ.objs id with
      | none => rw [hl] at hx; simp at hx
      | some y =>
        rw [hl] at hx
        obtain rfl := Option.some.inj hx
        simp only [if_neg hid]
        have h0 := h.objs id y hl
        exact ObRel.other hμ hoth (Ob.noRef_erase _ _) (ObRel.erase _ (so (ObRel.move hkeeps (fun _ _ x => x) (fun b hb => hheap b (hbk id y b hl hb)) h0)))
  · intro id id' x x' b hx hx' hb hb'
    rw [hlook] at hx hx'
    by_cases hid : id = d <;> by_cases hid' : id' = d
    · rw [hid, hid']
    · exfalso
      simp only [if_pos hid, if_neg hid'] at hb hb' hx'
      cases hl : look σ.objs id' with
      | none => rw [hl] at hx'; simp at hx'
      | some y => exact (hblk b hb).2.2 id' y hl hb'
    · exfalso
      simp only [if_neg hid, if_pos hid'] at hb hb' hx
      cases hl : look σ.objs id with
      | none => rw [hl] at hx; simp at hx
      | some y => exact (hblk b hb').2.2 id y hl hb
    · simp only [if_neg hid, if_neg hid'] at hb hb' hx hx'
      cases hl : look σ.objs id with
      | none => rw [hl] at hx; simp at hx
      | some y =>
        cases hl' : look σ.objs id' with
        | none => rw [hl'] at hx'; simp at hx'
        | some y' => exact h.inj id id' y y' b hl hl' hb hb'
  · intro id x b hx hb
    rw [hlook] at hx
    by_cases hid : id = d
    · simp only [if_pos hid] at hb
      exact .inl (hblk b hb).1
    · simp only [if_neg hid] at hb hx
      cases hl : look σ.objs id with
      | none => rw [hl] at hx; simp at hx
      | some y => exact h.own id y b hl hb
  · intro id x b off hx hb hS
    rw [hlook] at hx
    by_cases hid : id = d
    · exfalso
      simp only [if_pos hid] at hb
      exact (hblk b hb).2.1 off hS
    · simp only [if_neg hid] at hb hx
      cases hl : look σ.objs id with
      | none => rw [hl] at hx; simp at hx
      | some y =>
        rw [hl] at hx
        obtain rfl := Option.some.inj hx
        obtain ⟨h1, h2⟩ := h.unst id y b off hl hb hS
        refine ⟨h1, fun ver s rows hr => ?_⟩
        cases y with
        | box c => simp [Ob.erase] at hr
        | arr v s' r => exact h2 ver s rows (by simpa [Ob.erase] using hr)
        | iter => simp [Ob.erase] at hr
        | tab => simp [Ob.erase] at hr
  · intro b off hS
    exact Nat.lt_of_lt_of_le (h.stab b off hS) hsize

theorem SimG.create (h : SimG w0 S0 M σ a w S μ β) (d : Nat) (hdn : d < σ.n) (o : Ob) (blk : Option Nat) (mu : Value) {w' : World}
    (hw : Kept (fun _ => False) w w') (hblk : ∀ b, blk = some b → b = w.heap.size)
    (hob : ObRel w' S μ σ.objs blk mu o) :
    SimG w0 S0 M { σ with env := eraseE d σ.env, objs := eraseO d (Vs.put σ.objs d o) } a w' S (fun id => if id = d then mu else μ id) (fun id => if id = d then blk else β id) :=
  h.create' d hdn o blk mu hw (fun b hb => by
    have hbb := hblk b hb
    subst hbb
    exact ⟨h.kept.size, fun off hS => Nat.lt_irrefl _ (h.stab _ off hS), fun id o hl hb' => Nat.lt_irrefl _ (ObRel.live hb' (h.objs id o hl))⟩) hob

/-- An object turns, in its block or in a new one. -/
theorem SimG.turn (h : SimG w0 S0 M σ a w S μ β) {id : Nat} {o o' : Ob} (hl : look σ.objs id = some o) (blk : Option Nat) (mu : Value) {w' : World}
    (hkeeps : Keeps S w w') (hkept : Kept M.blocks w0 w') (hsize : w.heap.size ≤ w'.heap.size)
    (hblk : ∀ id' x b, id' ≠ id → look σ.objs id' = some x → β id' = some b → w'.heap[b]? = w.heap[b]?)
    (hkind : (∃ c c', o = .box c ∧ o' = .box c' ∧ mu = μ id) ∨
      (∃ cv s rows cv' rows', o = .arr cv s rows ∧ o' = .arr cv' s rows' ∧ cv ≤ cv' ∧ (cv = cv' → rows.length = rows'.length ∧ mu = μ id)) ∨
      (∃ s p s' p', o = .iter s p ∧ o' = .iter s' p' ∧ mu = μ id) ∨
      (∃ cv s rows ln cv' rows' ln', o = .tab cv s rows ln ∧ o' = .tab cv' s rows' ln' ∧ cv ≤ cv' ∧ (cv = cv' → rows.length = rows'.length ∧ mu = μ id)))
    (hob : ObRel w' S μ σ.objs blk mu o')
    (hb : ∀ b, blk = some b → (β id = some b ∨ w.heap.size ≤ b))
    (hun : ∀ b off, blk = some b → S b off → id ∈ σ.ro ∧ ∀ ver s rows, o' = .arr ver s rows → off < rows.length * s) :
    SimG w0 S0 M { σ with objs := Vs.put σ.objs id o' } a w' S (fun i => if i = id then mu else μ i) (fun i => if i = id then blk else β i) := by
  have hlook : ∀ i, look (Vs.put σ.objs id o') i = if i = id then some o' else look σ.objs i := fun i => look_put _ _ _ _
  have hbk : ∀ i x b, look σ.objs i = some x → β i = some b → b < w.heap.size := fun i x b hx hb => ObRel.live hb (h.objs i x hx)
  have hbx : ∀ i cells, look (Vs.put σ.objs id o') i = some (.box cells) → ∃ cells', look σ.objs i = some (.box cells') ∧ (fun i => if i = id then mu else μ i) i = μ i := by
    intro i cells hc
    rw [hlook] at hc
    by_cases hi : i = id
    · subst hi
      rw [if_pos rfl] at hc
      obtain rfl := Option.some.inj hc
      rcases hkind with ⟨c, c', rfl, _, hm⟩ | ⟨_, _, _, _, _, _, h2, _⟩ | ⟨_, _, _, _, _, h2, _⟩ | ⟨_, _, _, _, _, _, _, _, h2, _⟩
      · exact ⟨c, hl, by simp [hm]⟩
      · simp at h2
      · simp at h2
      · simp at h2
    · rw [if_neg hi] at hc
      exact ⟨cells, hc, by simp [hi]⟩
  have har : ∀ i cv s rows, look (Vs.put σ.objs id o') i = some (.arr cv s rows) → ∃ cv' rows', look σ.objs i = some (.arr cv' s rows') ∧ cv' ≤ cv ∧ (cv' = cv → rows'.length = rows.length ∧ (fun i => if i = id then mu else μ i) i = μ i) := by
    intro i cv s rows hc
    rw [hlook] at hc
    by_cases hi : i = id
    · subst hi
      rw [if_pos rfl] at hc
      obtain rfl := Option.some.inj hc
      rcases hkind with ⟨c, c', _, h2, _⟩ | ⟨cv0, s0, rows0, cv1, rows1, rfl, h2, h3, h4⟩ | ⟨_, _, _, _, _, h2, _⟩ | ⟨_, _, _, _, _, _, _, _, h2, _⟩
      · simp at h2
      · simp only [Ob.arr.injEq] at h2
        obtain ⟨rfl, rfl, rfl⟩ := h2
        exact ⟨cv0, rows0, hl, h3, fun e => by obtain ⟨h5, h6⟩ := h4 e; exact ⟨h5, by simp [h6]⟩⟩
      · simp at h2
      · simp at h2
    · rw [if_neg hi] at hc
      exact ⟨cv, rows, hc, Nat.le_refl _, fun _ => ⟨rfl, by simp [hi]⟩⟩
  have hir : ∀ i s p, look (Vs.put σ.objs id o') i = some (.iter s p) → ∃ s' p', look σ.objs i = some (.iter s' p') ∧ (fun i => if i = id then mu else μ i) i = μ i := by
    intro i s p hc
    rw [hlook] at hc
    by_cases hi : i = id
    · subst hi
      rw [if_pos rfl] at hc
      obtain rfl := Option.some.inj hc
      rcases hkind with ⟨c, c', _, h2, _⟩ | ⟨_, _, _, _, _, _, h2, _⟩ | ⟨s0, p0, s1, p1, rfl, h2, hm⟩ | ⟨_, _, _, _, _, _, _, _, h2, _⟩
      · simp at h2
      · simp at h2
      · exact ⟨s0, p0, hl, by simp [hm]⟩
      · simp at h2
    · rw [if_neg hi] at hc
      exact ⟨s, p, hc, by simp [hi]⟩
  have htr : ∀ i cv s rows ln, look (Vs.put σ.objs id o') i = some (.tab cv s rows ln) → ∃ cv' rows' ln', look σ.objs i = some (.tab cv' s rows' ln') ∧ cv' ≤ cv ∧ (cv' = cv → rows'.length = rows.length ∧ (fun i => if i = id then mu else μ i) i = μ i) := by
    intro i cv s rows ln hc
    rw [hlook] at hc
    by_cases hi : i = id
    · subst hi
      rw [if_pos rfl] at hc
      obtain rfl := Option.some.inj hc
      rcases hkind with ⟨c, c', _, h2, _⟩ | ⟨_, _, _, _, _, _, h2, _⟩ | ⟨_, _, _, _, _, h2, _⟩ | ⟨cv0, s0, rows0, ln0, cv1, rows1, ln1, rfl, h2, h3, h4⟩
      · simp at h2
      · simp at h2
      · simp at h2
      · simp only [Ob.tab.injEq] at h2
        obtain ⟨rfl, rfl, rfl, rfl⟩ := h2
        exact ⟨cv0, rows0, ln0, hl, h3, fun e => by obtain ⟨h5, h6⟩ := h4 e; exact ⟨h5, by simp [h6]⟩⟩
    · rw [if_neg hi] at hc
      exact ⟨cv, rows, ln, hc, Nat.le_refl _, fun _ => ⟨rfl, by simp [hi]⟩⟩
  refine { defers := h.defers, size := h.size, env := ?_, objs := ?_, inj := ?_, own := ?_, unst := ?_, stab := ?_, ext := h.ext, back := h.back, kept := hkept, stay := fun b o hb => (hkeeps.1 b o (h.ext b o hb)).trans (h.stay b o hb), hist := fun p hp => SVRel.same hbx har hir htr _ _ (SVRel.mono hkeeps (fun _ _ x => x) _ _ (h.hist p hp)), far := h.far, glob := fun p hp => RepGl.mono hkeeps (fun _ _ x => x) (h.glob p hp) }
  · intro k
    exact SVRel.same hbx har hir htr _ _ (SVRel.mono hkeeps (fun _ _ x => x) _ _ (h.env k))
  · intro i x hx
    rw [hlook] at hx
    by_cases hi : i = id
    · subst hi
      rw [if_pos rfl] at hx
      obtain rfl := Option.some.inj hx
      simp only [if_pos]
      exact ObRel.same hbx har hir htr hob
    · rw [if_neg hi] at hx
      simp only [if_neg hi]
      exact ObRel.same hbx har hir htr (ObRel.move hkeeps (fun _ _ x => x) (fun b hb => hblk i x b hi hx hb) (h.objs i x hx))
  · intro i i' x x' b hx hx' hbi hbi'
    rw [hlook] at hx hx'
    by_cases hi : i = id <;> by_cases hi' : i' = id
    · rw [hi, hi']
    · simp only [if_pos hi, if_neg hi'] at hbi hbi' hx'
      rcases hb b hbi with h1 | h1
      · rw [hi]; exact h.inj id i' o x' b hl hx' h1 hbi'
      · exfalso; have := hbk i' x' b hx' hbi'; omega
    · simp only [if_neg hi, if_pos hi'] at hbi hbi' hx
      rcases hb b hbi' with h1 | h1
      · rw [hi']; exact h.inj i id x o b hx hl hbi h1
      · exfalso; have := hbk i x b hx hbi; omega
    · simp only [if_neg hi, if_neg hi'] at hbi hbi' hx hx'
      exact h.inj i i' x x' b hx hx' hbi hbi'
  · intro i x b hx hbi
    rw [hlook] at hx
    by_cases hi : i = id
    · simp only [if_pos hi] at hbi
      rcases hb b hbi with h1 | h1
      · exact h.own id o b hl h1
      · left; have := h.kept.size; omega
    · simp only [if_neg hi] at hbi hx
      exact h.own i x b hx hbi
  · intro i x b off hx hbi hS
    rw [hlook] at hx
    by_cases hi : i = id
    · subst hi
      simp only [if_pos] at hbi
      rw [if_pos rfl] at hx
      obtain rfl := Option.some.inj hx
      exact hun b off hbi hS
    · simp only [if_neg hi] at hbi hx
      exact h.unst i x b off hx hbi hS
  · intro b off hS
    exact Nat.lt_of_lt_of_le (h.stab b off hS) hsize

/-- What is frozen may not be written any more. -/
def frzCells (β : Nat → Option Nat) (objs : List (Nat × Ob)) (fz : List Nat) (b off : Nat) : Prop :=
  ∃ id o, id ∈ fz ∧ look objs id = some o ∧ β id = some b ∧ (∀ ver s rows, o = .arr ver s rows → off < rows.length * s)

theorem SimG.freeze (h : SimG w0 S0 M σ a w S μ β) (fz : List Nat) :
    SimG w0 S0 M { σ with ro := fz ++ σ.ro } a w (fun b off => S b off ∨ frzCells β σ.objs fz b off) μ β where
  defers := h.defers
  size := h.size
  env := fun k => SVRel.mono (Keeps.refl _ _) (fun _ _ x => .inl x) _ _ (h.env k)
  objs := fun id o ho => ObRel.move (Keeps.refl _ _) (fun _ _ x => .inl x) (fun _ _ => rfl) (h.objs id o ho)
  inj := h.inj
  own := h.own
  unst := fun id o b off ho hb hS => by
    rcases hS with hS | ⟨id', o', hf, ho', hb', hr⟩
    · obtain ⟨h1, h2⟩ := h.unst id o b off ho hb hS
      exact ⟨List.mem_append_right _ h1, h2⟩
    · have := h.inj id id' o o' b ho ho' hb hb'
      subst this
      obtain rfl : o = o' := by rw [ho] at ho'; exact Option.some.inj ho'
      exact ⟨List.mem_append_left _ hf, hr⟩
  stab := fun b off hS => by
    rcases hS with hS | ⟨id', o', hf, ho', hb', hr⟩
    · exact h.stab b off hS
    · exact ObRel.live hb' (h.objs id' o' ho')
  ext := fun b o hb => .inl (h.ext b o hb)
  back := fun b off hS => by
    rcases hS with hS | ⟨id', o', hf, ho', hb', hr⟩
    · exact h.back b off hS
    · exact .inr (h.own id' o' b ho' hb')
  kept := h.kept
  stay := h.stay
  hist := fun p hp => SVRel.mono (Keeps.refl _ _) (fun _ _ x => .inl x) _ _ (h.hist p hp)
  far := h.far
  glob := fun p hp => RepGl.mono (Keeps.refl _ _) (fun _ _ x => .inl x) (h.glob p hp)

/-- Fewer slots and objects are known. -/
theorem SimG.drop (h : SimG w0 S0 M σ a w S μ β) {σ' : St} (hn : σ'.n = σ.n) (hgl : σ'.gl = σ.gl) (hro : ∀ i o, look σ'.objs i = some o → i ∈ σ.ro → i ∈ σ'.ro)
    (he : ∀ k, getE σ'.env k = .undef ∨ getE σ'.env k = getE σ.env k)
    (ho : ∀ id o, look σ'.objs id = some o → look σ.objs id = some o) :
    SimG w0 S0 M σ' a w S μ β where
  defers := h.defers
  size := by rw [hn]; exact h.size
  env := fun k => by
    rcases he k with hk | hk
    · rw [hk]; trivial
    · rw [hk]
      exact SVRel.same (fun id cells hc => ⟨cells, ho _ _ hc, rfl⟩) (fun id cv s rows hc => ⟨cv, rows, ho _ _ hc, Nat.le_refl _, fun _ => ⟨rfl, rfl⟩⟩) (fun id s p hc => ⟨s, p, ho _ _ hc, rfl⟩) (fun id cv s rows ln hc => ⟨cv, rows, ln, ho _ _ hc, Nat.le_refl _, fun _ => ⟨rfl, rfl⟩⟩) _ _ (h.env k)
  objs := fun id o hl => ObRel.same (fun id cells hc => ⟨cells, ho _ _ hc, rfl⟩) (fun id cv s rows hc => ⟨cv, rows, ho _ _ hc, Nat.le_refl _, fun _ => ⟨rfl, rfl⟩⟩) (fun id s p hc => ⟨s, p, ho _ _ hc, rfl⟩) (fun id cv s rows ln hc => ⟨cv, rows, ln, ho _ _ hc, Nat.le_refl _, fun _ => ⟨rfl, rfl⟩⟩) (h.objs id o (ho _ _ hl))
  inj := fun id id' o o' b h1 h2 => h.inj id id' o o' b (ho _ _ h1) (ho _ _ h2)
  own := fun id o b h1 => h.own id o b (ho _ _ h1)
  unst := fun id o b off h1 h2 h3 => let ⟨h4, h5⟩ := h.unst id o b off (ho _ _ h1) h2 h3; ⟨hro _ _ h1 h4, h5⟩
  stab := h.stab
  ext := h.ext
  back := h.back
  kept := h.kept
  stay := h.stay
  hist := fun p hp => SVRel.same (fun id cells hc => ⟨cells, ho _ _ hc, rfl⟩) (fun id cv s rows hc => ⟨cv, rows, ho _ _ hc, Nat.le_refl _, fun _ => ⟨rfl, rfl⟩⟩) (fun id s p hc => ⟨s, p, ho _ _ hc, rfl⟩) (fun id cv s rows ln hc => ⟨cv, rows, ln, ho _ _ hc, Nat.le_refl _, fun _ => ⟨rfl, rfl⟩⟩) _ _ (h.hist p hp)
  far := fun p hp d hd => h.far p hp d (by rw [← hn]; exact hd)
  glob := fun p hp => h.glob p (by rw [← hgl]; exact hp)
end sim
end Go.Vs
set_option linter.unusedVariables false
set_option linter.unusedSimpArgs false
namespace Go.Vs

inductive Opd where
  | tmp (t : Nat)
  | const (v : SV)
  | func (f : Nat)
  | glob (g : Nat)
  deriving Inhabited, Repr

inductive LK where
  | b | i | s
  deriving Inhabited, Repr, DecidableEq

inductive VOp where
  | move (x : Opd)
  | pick (c a b : Opd)
  | alloc (zero : List SV)
  | box (x : Opd)
  | build (zero : List SV) (parts : List (Nat × Nat × Opd))
  | buildSlice (s n : Nat) (zero : List SV) (parts : List (Nat × Nat × Opd))
  | load (agg : Option Nat) (x : Opd)
  | store (n : Nat) (a x : Opd)
  | nilCheck (x : Opd)
  | bin (op : BinOp) (x y : Opd)
  | eqB (neg : Bool) (x y : Opd)
  | eqN (neg : Bool) (x : Opd)
  | eqP (neg : Bool) (x : Opd)
  | eqS (neg : Bool) (x : Opd)
  | eqA (neg : Bool) (ks : List LK) (x y : Opd)
  | un (op : UnOp) (x : Opd)
  | convI (k : IntKind) (x : Opd)
  | convS (x : Opd)
  | mkIface (t : Nat) (x : Opd)
  | mkFunc (f : Nat) (caps : List Opd)
  | mkBound (f : Nat) (first : List Opd)
  | mkSlice (s bytes : Nat) (zero : List SV) (len cap : Opd)
  | subS (x : Opd) (lo hi : Option Opd)
  | subV (s : Nat) (x : Opd) (lo hi mx : Option Opd)
  | subA (s n : Nat) (x : Opd) (lo hi : Option Opd)
  | fieldAddr (off : Nat) (x : Opd)
  | field (off : Nat) (agg : Option Nat) (x : Opd)
  | indexAddr (s : Nat) (x i : Opd)
  | indexArr (len s : Nat) (x i : Opd)
  | indexS (x i : Opd)
  | indexA (len s : Nat) (agg : Option Nat) (x i : Opd)
  | extract (x : Opd) (i : Nat)
  | lenS (x : Opd)
  | lenV (x : Opd)
  | lenC (n : Nat) (x : Opd)
  | maxI (x y : Opd)
  | minI (x y : Opd)
  | append (e s bytes : Nat) (x y : Opd)
  | clear (zero : List SV) (x : Opd)
  | copy (s : Nat) (x y : Opd)
  | call (f : Nat) (args : List Opd)
  | callV (f : Opd) (args : List Opd)
  | callM (f : Nat) (args : List Opd)
  | callMV (f : Opd) (args : List Opd)
  | rangeS (x : Opd)
  | nextS (x : Opd)
  | convB (x : Opd)
  | appendS (e bytes : Nat) (x y : Opd)
  | eqL (neg : Bool) (x y : Opd)
  | convR (x : Opd)
  | capV (x : Opd)
  | allocB (t : Nat)
  | mkMap
  | mapSet (ks : List LK) (m k x : Opd)
  | mapGet (ks : List LK) (m k : Opd)
  | appendZ (s bytes : Nat) (zero : List SV) (x y : Opd)
  | bad
  deriving Inhabited, Repr

structure VOper where
  dst : Option Nat
  op : VOp
  guard : Option (Nat × Bool)
  deriving Inhabited, Repr

inductive RMode where
  | text
  | calm
  | drawn (pairs makes : List (Nat × Nat))
  | drawnM (pairs makes : List (Nat × Nat))
  deriving Inhabited, Repr

inductive VCode where
  | skip
  | region (ops : List VOper) (mode : RMode) (dead : List Nat)
  | seq (a b : VCode)
  | cond (c : Opd) (thn els : VCode)
  | block (id : Nat) (body : VCode)
  | loop (body : VCode)
  | exit (id : Nat)
  | scope (body : VCode)
  | label (l : Nat)
  | goto (l : Nat)
  | ret
  | refuse
  | cut (body : VCode)
  deriving Inhabited, Repr

/-- The same, where it is not told that objects turn. -/
def VOp.strip : VOp → VOp
  | .callM f args => .call f args
  | .callMV f args => .callV f args
  | op => op
def VOper.strip (o : VOper) : VOper := { o with op := o.op.strip }
def stripOps : List VOper → List VOper
  | [] => []
  | o :: r => o.strip :: stripOps r
def RMode.strip : RMode → RMode
  | .drawnM a b => .drawn a b
  | m => m
/-- The same code, dead slots not named. -/
def VCode.strip : VCode → VCode
  | .region ops mode _ => .region (stripOps ops) mode.strip []
  | .seq a b => .seq a.strip b.strip
  | .cond c a b => .cond c a.strip b.strip
  | .block id a => .block id a.strip
  | .loop a => .loop a.strip
  | .scope a => .scope a.strip
  | .cut a => a.strip
  | c => c

/- HOW THE MODEL'S CODE BECOMES IT -/
def constSV1 : Value → Option SV
  | .bool b => some (.val (.bool b))
  | .int k n => some (.val (.int k n))
  | .string s => some (.val (.str s.data.toList))
  | .pointer none => some (.val .nilp)
  | .slice none 0 0 => some .nils
  | .map none => some .undef
  | .nilFunc => some (.val .nilf)
  | .nilIface => some (.val .nili)
  | _ => none
def constSVs : List Value → Option (List SV)
  | [] => some []
  | v :: r => match constSV1 v, constSVs r with
    | some x, some xs => some (x :: xs)
    | _, _ => none
def mkAgg (cells : List SV) : SV := match allVal cells with
  | some vs => .val (.agg vs)
  | none => .agg cells
def constSV : Value → Option SV
  | .agg cs => match constSVs cs.toList with
    | some xs => some (.agg xs)
    | none => none
  | v => constSV1 v

def compOpd : Operand → Option Opd
  | .tmp t => some (.tmp t)
  | .const v => (constSV v).map .const
  | .global g => some (.glob g)
  | .func f => some (.func f)
def compOpds : List Operand → Option (List Opd)
  | [] => some []
  | x :: r => match compOpd x, compOpds r with
    | some y, some ys => some (y :: ys)
    | _, _ => none
def compOpt : Option Operand → Option (Option Opd)
  | none => some none
  | some x => (compOpd x).map some

def isAggD : TypeDesc → Bool
  | .struct _ => true
  | .array _ _ => true
  | _ => false
/-- How many cells, and whether they stand in one value. -/
def aggOf (P : Program) (t : TypeId) : Option (Option Nat) :=
  match P.underlying t, P.info? t with
  | some (.struct _), some i => some (some i.size)
  | some (.array _ _), some i => some (some i.size)
  | some _, some i => if i.size = 1 then some none else none
  | _, _ => none
def sizeT (P : Program) (t : TypeId) : Option Nat := (P.info? t).map (·.size)
def zeroT (P : Program) (t : TypeId) : Option (List SV) := match (P.info? t).bind (·.zero) with
  | some z => constSVs z.cells.toList
  | none => none

def leavesFields (leaf : TypeId → Option (List LK)) (off : Nat) : List Field → Option (List LK)
  | [] => some []
  | f :: r => if f.name = "_" then none else if f.offset ≠ off then none else
    match leaf f.type with
    | some ks => match leavesFields leaf (off + ks.length) r with
      | some rs => some (ks ++ rs)
      | none => none
    | none => none
/-- The kinds of the cells of a type that is compared cell by cell. -/
def leaves (P : Program) : Nat → TypeId → Option (List LK)
  | 0, _ => none
  | d + 1, t => match P.underlying t with
    | some .bool => if sizeT P t = some 1 then some [.b] else none
    | some (.int _) => if sizeT P t = some 1 then some [.i] else none
    | some .string => if sizeT P t = some 1 then some [.s] else none
    | some (.struct fs) => if P.stoodInHeld t then none else
      match leavesFields (leaves P d) 0 fs.toList with
      | some ks => if sizeT P t = some ks.length then some ks else none
      | none => none
    | _ => none

def nilI : Operand → Bool
  | .const .nilIface => true
  | _ => false
def nilP : Operand → Bool
  | .const (.pointer none) => true
  | _ => false
theorem nilI_eq {x : Operand} (h : nilI x = true) : x = .const .nilIface := by
  unfold nilI at h; split at h
  · rfl
  · simp at h
theorem nilP_eq {x : Operand} (h : nilP x = true) : x = .const (.pointer none) := by
  unfold nilP at h; split at h
  · rfl
  · simp at h

def nilS : Operand → Bool
  | .const (.slice none 0 0) => true
  | _ => false
theorem nilS_eq {x : Operand} (h : nilS x = true) : x = .const (.slice none 0 0) := by
  unfold nilS at h; split at h
  · rfl
  · simp at h

def compEq (P : Program) (neg : Bool) (op : BinOp) (t : TypeId) (y : Operand) (u v : Opd) : Option VOp :=
  match P.underlying t with
  | some .bool => some (.eqB neg u v)
  | some (.int _) => some (.bin op u v)
  | some .string => some (.bin op u v)
  | some (.interface _) => if nilI y then some (.eqN neg u) else none
  | some (.pointer e) => if nilP y then some (.eqP neg u) else if (P.info? e).isSome then some (.eqL neg u v) else none
  | some (.slice _) => if nilS y then some (.eqS neg u) else none
  | some (.struct _) => if P.eqGuardType P.depth t then none else (leaves P 10 t).map (.eqA neg · u v)
  | _ => none
def compBin (P : Program) (op : BinOp) (t : TypeId) (x y : Operand) : Option VOp :=
  match compOpd x, compOpd y with
  | some u, some v =>
    match op with
    | .eql => compEq P false .eql t y u v
    | .neq => compEq P true .neq t y u v
    | _ => some (.bin op u v)
  | _, _ => none

def compFn (fn : Fn) (first caps : Array Operand) : Option VOp :=
  match fn with
  | .func f => if first.size = 0 then (compOpds caps.toList).map (.mkFunc f) else if caps.size = 0 then (compOpds first.toList).map (.mkBound f) else none
  | _ => none

def compParts (place : Nat → Option (Nat × Nat)) : List (Nat × Operand) → Option (List (Nat × Nat × Opd))
  | [] => some []
  | (i, x) :: r => match place i, compOpd x, compParts place r with
    | some (o, s), some y, some ys => some ((o, s, y) :: ys)
    | _, _, _ => none

def placesF (P : Program) (fs : Array Field) (i : Nat) : Option (Nat × Nat) := match fs[i]? with
  | some f => (sizeT P f.type).map (f.offset, ·)
  | none => none

def compCall (P : Program) (c : Call) : Option VOp :=
  match c.callee with
  | .value (.func f) => match P.funcs[f]? with
    | some fn => if fn.name = "runtime.NumGoroutine" then none else (compOpds c.args.toList).map (.call f)
    | none => none
  | .value f => match compOpd f, compOpds c.args.toList with
    | some u, some vs => some (.callV u vs)
    | _, _ => none
  | .builtin .len => match c.argTypes[0]?, c.args.toList with
    | some t, [x] => match P.underlying t, compOpd x with
      | some .string, some u => some (.lenS u)
      | some (.slice _), some u => some (.lenV u)
      | some (.array n _), some u => some (.lenC n u)
      | _, _ => none
    | _, _ => none
  | .builtin .cap => match c.argTypes[0]?, c.args.toList with
    | some t, [x] => match P.underlying t, compOpd x with
      | some (.slice _), some u => some (.capV u)
      | _, _ => none
    | _, _ => none
  | .builtin .max => match c.args.toList with
    | [x, y] => match compOpd x, compOpd y with
      | some u, some v => some (.maxI u v)
      | _, _ => none
    | _ => none
  | .builtin .min => match c.args.toList with
    | [x, y] => match compOpd x, compOpd y with
      | some u, some v => some (.minI u v)
      | _, _ => none
    | _ => none
  | .builtin .append => match c.argTypes[0]?, c.argTypes[1]?, c.args.toList with
    | some t, some t', [x, y] => match P.underlying t, P.underlying t', compOpd x, compOpd y with
      | some (.slice e), some (.slice _), some u, some v => match P.info? e with
        | some i => if 0 < i.size ∧ 0 < i.bytes ∧ i.zero.any (fun z => z.cells.size == i.size) then some (.append e i.size i.bytes u v) else none
        | none => none
      | some (.slice e), some (.int _), some u, some v => match P.info? e, zeroT P e with
        | some i, some z => if 0 < i.size ∧ 0 < i.bytes ∧ z.length = i.size then some (.appendZ i.size i.bytes z u v) else none
        | _, _ => none
      | some (.slice e), some .string, some u, some v => match P.info? e with
        | some i => if i.size = 1 ∧ 0 < i.bytes ∧ i.zero.any (fun z => z.cells.size == i.size) then some (.appendS e i.bytes u v) else none
        | none => none
      | _, _, _, _ => none
    | _, _, _ => none
  | .builtin .clear => match c.argTypes[0]?, c.args.toList with
    | some t, [x] => match P.underlying t, compOpd x with
      | some (.slice e), some u => (zeroT P e).map (.clear · u)
      | _, _ => none
    | _, _ => none
  | .builtin .copy => match c.argTypes[0]?, c.argTypes[1]?, c.args.toList with
    | some t, some t', [x, y] => match P.underlying t, P.underlying t', compOpd x, compOpd y with
      | some (.slice e), some (.slice _), some u, some v => (sizeT P e).map (.copy · u v)
      | _, _, _, _ => none
    | _, _, _ => none
  | _ => none

/-- Is it the type strings.Builder: two cells, none of them set? -/
def isB (P : Program) (t : TypeId) : Bool := match P.typeName? 3 t, (P.info? t).bind (·.zero) with
  | some n, some z => n == "strings.Builder" && (match z.cells.toList with | [.pointer none, .slice none 0 0] => true | _ => false)
  | _, _ => false
def compOp0 (P : Program) : Op → Option VOp
  | .move x => (compOpd x).map .move
  | .assign x => (compOpd x).map .move
  | .pick c a b => match compOpd c, compOpd a, compOpd b with
    | some c, some a, some b => some (.pick c a b)
    | _, _, _ => none
  | .alloc t => if isB P t then some (.allocB t) else (zeroT P t).map .alloc
  | .box _ x => (compOpd x).map .box
  | .build t parts => match P.underlying t, zeroT P t with
    | some (.struct fs), some z => if fs.toList.all (fun f => (sizeT P f.type).isSome) then (compParts (placesF P fs) parts.toList).map (.build z) else none
    | some (.array _ e), some z => match sizeT P e with
      | some s => (compParts (fun i => some (i * s, s)) parts.toList).map (.build z)
      | none => none
    | _, _ => none
  | .buildSlice t n parts => match P.underlying t with
    | some (.slice e) => match sizeT P e, zeroT P e with
      | some s, some z => if 0 < s ∧ z.length = s ∧ n * s ≤ 16777216 then (compParts (fun i => some (i * s, s)) parts.toList).map (.buildSlice s n z) else none
      | _, _ => none
    | _ => none
  | .load t x => match aggOf P t, compOpd x with
    | some g, some u => some (.load g u)
    | _, _ => none
  | .store t x y => match sizeT P t, compOpd x, compOpd y with
    | some n, some u, some v => some (.store n u v)
    | _, _, _ => none
  | .nilCheck x => (compOpd x).map .nilCheck
  | .binOp op t x y _ => compBin P op t x y
  | .unOp op _ x => (compOpd x).map (.un op)
  | .convert s d x => match P.underlying s, P.underlying d, compOpd x with
    | some (.int _), some (.int k), some u => some (.convI k u)
    | some .string, some .string, some u => some (.convS u)
    | some (.int _), some .string, some u => some (.convR u)
    | some (.slice e), some .string, some u => match P.underlying e with
      | some (.int .u8) => some (.convB u)
      | _ => none
    | _, _, _ => none
  | .range t x => match P.underlying t, compOpd x with
    | some .string, some u => some (.rangeS u)
    | _, _ => none
  | .next x true => (compOpd x).map .nextS
  | .makeInterface t x => match P.underlying t with
    | some (.interface _) => none
    | some _ => (compOpd x).map (.mkIface t)
    | none => none
  | .makeFunc fn first caps => compFn fn first caps
  | .makeSlice t l c => match P.underlying t with
    | some (.slice e) => match P.info? e, zeroT P e, compOpd l, compOpd c with
      | some i, some z, some u, some v => if 0 < i.size ∧ z.length = i.size then some (.mkSlice i.size i.bytes z u v) else none
      | _, _, _, _ => none
    | _ => none
  | .slice t x lo hi mx => match P.underlying t, compOpd x, compOpt lo, compOpt hi, compOpt mx with
    | some .string, some u, some l, some h, some none => some (.subS u l h)
    | some (.slice e), some u, some l, some h, some m => (sizeT P e).map (.subV · u l h m)
    | some (.array n e), some u, some l, some h, some none => (sizeT P e).map (.subA · n u l h)
    | _, _, _, _, _ => none
  | .fieldAddr t x f => match P.underlying t with
    | some (.struct fs) => match fs[f]?, compOpd x with
      | some g, some u => match sizeT P g.type with
        | some n => if n = 0 then none else some (.fieldAddr g.offset u)
        | none => none
      | _, _ => none
    | _ => none
  | .field t x f => match P.underlying t with
    | some (.struct fs) => match fs[f]?, compOpd x with
      | some g, some u => (aggOf P g.type).map (.field g.offset · u)
      | _, _ => none
    | _ => none
  | .indexAddr t x i => match P.underlying t with
    | some (.slice e) => match sizeT P e, compOpd x, compOpd i with
      | some s, some u, some v => some (.indexAddr s u v)
      | _, _, _ => none
    | some (.array n e) => match sizeT P e, compOpd x, compOpd i with
      | some s, some u, some v => some (.indexArr n s u v)
      | _, _, _ => none
    | _ => none
  | .index t x i => match P.underlying t with
    | some .string => match compOpd x, compOpd i with
      | some u, some v => some (.indexS u v)
      | _, _ => none
    | some (.array n e) => match aggOf P e, sizeT P e, compOpd x, compOpd i with
      | some g, some s, some u, some v => some (.indexA n s g u v)
      | _, _, _, _ => none
    | _ => none
  | .extract x i => (compOpd x).map (.extract · i)
  | .makeMap _ none => some .mkMap
  | .mapUpdate t m k x => match P.underlying t, compOpd m, compOpd k, compOpd x with
    | some (.map kt vt), some u, some v, some y => match P.underlying kt, leaves P 10 kt with
      | some (.struct _), some ks => if P.eqGuardType P.depth kt then none else some (.mapSet ks u v y)
      | _, _ => none
    | _, _, _, _ => none
  | .lookup t m k false => match P.underlying t, compOpd m, compOpd k with
    | some (.map kt vt), some u, some v => match P.underlying kt, leaves P 10 kt with
      | some (.struct _), some ks => if P.eqGuardType P.depth kt then none else some (.mapGet ks u v)
      | _, _ => none
    | _, _, _ => none
  | .call c => compCall P c
  | _ => none

/-- What is not in the small code stands there as what cannot be passed. -/
def compOp (P : Program) (op : Op) : Option VOp := some ((compOp0 P op).getD .bad)
theorem compOp_cases {P : Program} {op : Op} {vo : VOp} (h : compOp P op = some vo) : compOp0 P op = some vo ∨ vo = .bad := by
  unfold compOp at h
  obtain rfl := Option.some.inj h
  cases h0 : compOp0 P op with
  | some v => exact .inl rfl
  | none => exact .inr rfl
def compGuard (ops : Array Oper) : Option (Nat × Bool) → Option (Option (Nat × Bool))
  | none => some none
  | some (j, b) => match (ops[j]?).bind (·.dst) with
    | some d => some (some (d, b))
    | none => none
def compOper (P : Program) (ops : Array Oper) (o : Oper) : Option VOper :=
  match compOp P o.op, compGuard ops o.guard with
  | some v, some g => some ⟨o.dst, v, g⟩
  | _, _ => none
def compOpers (P : Program) (ops : Array Oper) : List Oper → Option (List VOper)
  | [] => some []
  | o :: r => match compOper P ops o, compOpers P ops r with
    | some v, some vs => some (v :: vs)
    | _, _ => none

/-- Does an operation look at objects? -/
def VOp.acts : VOp → Bool
  | .box _ | .buildSlice _ _ _ _ | .load _ _ | .store _ _ _ | .append _ _ _ _ _ | .clear _ _ | .copy _ _ _ | .call _ _ | .callV _ _ | .lenV _ | .subV _ _ _ _ _ | .subA _ _ _ _ _ | .indexAddr _ _ _
  | .build _ _ | .nilCheck _ | .eqP _ _ | .eqS _ _ | .indexArr _ _ _ _ | .fieldAddr _ _ => true
  | .nextS _ | .convB _ | .appendS _ _ _ _ | .eqL _ _ _ => true
  | .mapSet _ _ _ _ | .mapGet _ _ _ => true
  | _ => false
/-- May it write an object? -/
def VOp.writes : VOp → Bool
  | .mapSet _ _ _ _ => true
  | .store _ _ _ | .append _ _ _ _ _ | .clear _ _ | .copy _ _ _ | .nextS _ | .appendS _ _ _ _ => true
  | _ => false
/-- May it make one? -/
def VOp.makes : VOp → Bool
  | .mkMap | .appendZ _ _ _ _ _ => true
  | .alloc _ | .allocB _ | .box _ | .buildSlice _ _ _ _ | .mkSlice _ _ _ _ _ | .append _ _ _ _ _ | .call _ _ | .callV _ _ | .rangeS _ => true
  | _ => false
def VOp.flagged (x y : VOp) : Bool := (x.writes && y.acts) || (y.writes && x.acts) || x.makes || y.makes

/-- The pairs of operations that no edge orders, and that are looked at as they are met; which may not name what another one makes: none where an edge goes up, or where two that no edge orders name one slot that one of them writes. -/
def pairsOf (ops : Array Oper) (vs : Array VOper) : Option (List (Nat × Nat) × List (Nat × Nat)) :=
  let before := Region.before ops
  if (List.range ops.size).all (fun j => match ops[j]? with
      | some o => o.after.toList.all fun e => !Region.binds .any e || decide (e.on < j)
      | none => false) &&
    (List.range ops.size).all (fun j => (List.range j).all fun i => (before.getD j 0).testBit i ||
      match ops[i]?, ops[j]? with
      | some oi, some oj => oi.apart ops oj
      | _, _ => false)
  then some (
    (List.range ops.size).flatMap (fun j => (List.range j).filterMap fun i => if (before.getD j 0).testBit i then none else
      match vs[i]?, vs[j]? with
      | some vi, some vj => if vi.op.flagged vj.op then some (i, j) else none
      | _, _ => none),
    (List.range ops.size).flatMap (fun k => match vs[k]? with
      | some vk => if vk.op.makes then (List.range ops.size).filterMap (fun j => if j = k then none else if (before.getD j 0).testBit k then none else some (j, k)) else []
      | none => []))
  else none

def comp (P : Program) : Code → Option VCode
  | .skip => some .skip
  | .region _ ops draw => match compOpers P ops ops.toList with
    | some vs => if draw then match pairsOf ops vs.toArray with
        | some (ps, ms) => if ps.isEmpty && vs.all (fun v => !v.op.makes) then some (.region vs .calm []) else some (.region vs (.drawn ps ms) [])
        | none => none
      else some (.region vs .text [])
    | none => none
  | .seq a b => match comp P a, comp P b with
    | some x, some y => some (.seq x y)
    | _, _ => none
  | .cond c a b => match compOpd c, comp P a, comp P b with
    | some u, some x, some y => some (.cond u x y)
    | _, _, _ => none
  | .block id a => (comp P a).map (.block id)
  | .loop a => (comp P a).map .loop
  | .exit id => some (.exit id)
  | .scope a => (comp P a).map .scope
  | .label l => some (.label l)
  | .goto l => some (.goto l)
  | .ret => some .ret
  | .refuse _ => some .refuse
  | _ => none

/- THE EVALUATOR -/
def val (σ : St) : Opd → SV
  | .tmp t => getE σ.env t
  | .const v => v
  | .func f => .val (.fn f [])
  | .glob g => match look σ.gl g with
    | some cells => .val (.ref cells)
    | none => .undef

/-- What is known of a cell of rows, besides the rows. -/
def lnFind : List (Nat × Nat × SV) → Nat → Nat → Option SV
  | [], _, _ => none
  | p :: r, i, j => bif p.1 == i && p.2.1 == j then some p.2.2 else lnFind r i j
def lnCell (ln : List (Nat × Nat × SV)) (i j : Nat) (c : IV) : SV := (lnFind ln i j).getD (.val c)
def lnCells (ln : List (Nat × Nat × SV)) (i : Nat) : Nat → List IV → List SV
  | _, [] => []
  | j, c :: r => lnCell ln i j c :: lnCells ln i (j + 1) r
/-- What of a cell that is stored is kept so. -/
def linkable : SV → Bool
  | .nils => true
  | .full _ => true
  | .own _ _ => true
  | _ => false
def lnNew (i : Nat) : Nat → List SV → List (Nat × Nat × SV)
  | _, [] => []
  | j, c :: r => bif linkable c then (i, j, c) :: lnNew i (j + 1) r else lnNew i (j + 1) r
def lnRows (s : Nat) : Nat → List SV → List (Nat × Nat × SV)
  | _, [] => []
  | k, c :: r => bif linkable c then (k / s, k % s, c) :: lnRows s (k + 1) r else lnRows s (k + 1) r
def lnCut (i lo hi : Nat) : List (Nat × Nat × SV) → List (Nat × Nat × SV)
  | [] => []
  | p :: r => bif p.1 == i && (decide (lo ≤ p.2.1) && decide (p.2.1 < hi)) then lnCut i lo hi r else p :: lnCut i lo hi r
def lnShift (n : Nat) : List (Nat × Nat × SV) → List (Nat × Nat × SV)
  | [] => []
  | p :: r => (n + p.1, p.2.1, p.2.2) :: lnShift n r
structure Upd where
  v : SV := .undef
  side : Prop := True
  new : Option Ob := none
  wr : Option (Nat × Ob) := none
  fz : List Nat := []
  dec : Decidable side := by infer_instance

def putD (env : List (Nat × SV)) : Option Nat → SV → List (Nat × SV)
  | some d, v => put env d v
  | none, _ => env
def putW (objs : List (Nat × Ob)) : Option (Nat × Ob) → List (Nat × Ob)
  | some (id, o) => put objs id o
  | none => objs
/-- What an operation leaves. -/
def St.apply (σ : St) (dst : Option Nat) (u : Upd) : St :=
  match u.new, dst with
  | some o, some d => ⟨put (eraseE d σ.env) d u.v, eraseO d (put σ.objs d o), u.fz ++ σ.ro, σ.n, σ.gl⟩
  | _, _ => ⟨putD σ.env dst u.v, putW σ.objs u.wr, u.fz ++ σ.ro, σ.n, σ.gl⟩

/-- A value of one cell that may be kept. -/
def okCell (objs : List (Nat × Ob)) : SV → Bool
  | .val v => v.one
  | .nils => true
  | .full _ => true
  | .own id ver => match look objs id with
    | some (.arr cv _ _) => ver == cv
    | _ => false
  | .ownT id ver _ => match look objs id with
    | some (.arr cv _ _) => ver == cv
    | _ => false
  | .view id ver _ _ => match look objs id with
    | some (.arr cv _ _) => ver == cv
    | _ => false
  | .nilT => true
  | .town id ver => match look objs id with
    | some (.tab cv _ _ _) => ver == cv
    | _ => false
  | .loc id _ => match look objs id with
    | some (.box _) => true
    | _ => false
  | .selfN id t nn => match look objs id with
    | some (.box _) => true
    | _ => false
  | .clo _ _ => true
  | .ifc _ _ => true
  | .itr id => match look objs id with
    | some (.iter _ _) => true
    | _ => false
  | _ => false
def okCells (objs : List (Nat × Ob)) : List SV → Bool
  | [] => true
  | x :: r => okCell objs x && okCells objs r
/-- The cells of a value that is stored. -/
def cellsOf (objs : List (Nat × Ob)) : SV → Option (List SV)
  | .val (.agg cs) => some (cs.map .val)
  | .agg cells => some cells
  | v => if okCell objs v then some [v] else none

/-- The immutable value that stands in a slot; the objects that are frozen by it. -/
def toIV0 (objs : List (Nat × Ob)) : SV → Option (IV × List Nat)
  | .val v => some (v, [])
  | .nils => some (.slice [], [])
  | .full rows => some (.slice rows, [])
  | .nilT => some (.slice [], [])
  | .town id ver => match look objs id with
    | some (.tab cv _ rows _) => if ver == cv then some (.slice rows, [id]) else none
    | _ => none
  | .own id ver => match look objs id with
    | some (.arr cv _ rows) => if ver == cv then some (.slice rows, [id]) else none
    | _ => none
  | .view id ver lo hi => match look objs id with
    | some (.arr cv _ rows) => if ver == cv then some (.slice ((rows.take hi).drop lo), [id]) else none
    | _ => none
  | _ => none
def toIVs0 (objs : List (Nat × Ob)) : List SV → Option (List IV × List Nat)
  | [] => some ([], [])
  | x :: r => match toIV0 objs x, toIVs0 objs r with
    | some (v, f), some (vs, fs) => some (v :: vs, f ++ fs)
    | _, _ => none
def toIV1 (objs : List (Nat × Ob)) : SV → Option (IV × List Nat)
  | .loc id off => match look objs id with
    | some (.box cells) => match toIVs0 objs cells with
      | some (vs, fs) => some (.ref (vs.drop off), id :: fs)
      | none => none
    | _ => none
  | x => toIV0 objs x
def toIVs1 (objs : List (Nat × Ob)) : List SV → Option (List IV × List Nat)
  | [] => some ([], [])
  | x :: r => match toIV1 objs x, toIVs1 objs r with
    | some (v, f), some (vs, fs) => some (v :: vs, f ++ fs)
    | _, _ => none
def toIV (objs : List (Nat × Ob)) : SV → Option (IV × List Nat)
  | .ifc t x => match toIV1 objs x with
    | some (v, f) => some (.iface t v, f)
    | none => none
  | .agg cells => match toIVs1 objs cells with
    | some (vs, fs) => some (.agg vs, fs)
    | none => none
  | .clo f caps => match toIVs1 objs caps with
    | some (vs, fs) => some (.fn f vs, fs)
    | none => none
  | x => toIV1 objs x
def toIVs (objs : List (Nat × Ob)) : List SV → Option (List IV × List Nat)
  | [] => some ([], [])
  | x :: r => match toIV objs x, toIVs objs r with
    | some (v, f), some (vs, fs) => some (v :: vs, f ++ fs)
    | _, _ => none

/-- No memory behind it. -/
def IV.flat : IV → Bool
  | .int _ _ | .bool _ | .str _ | .nilp | .nilf | .yld _ | .nili | .nilS | .handle _ _ _ => true
  | .agg cs => flats cs
  | .tuple vs => flats vs
  | .iface _ v => v.flat
  | _ => false
where flats : List IV → Bool
  | [] => true
  | x :: xs => x.flat && flats xs

def binI (op : BinOp) (k : IntKind) (a b : Int) : Option Upd :=
  match op with
  | .add => some { v := .val (.int k (k.wrap (a + b))) }
  | .sub => some { v := .val (.int k (k.wrap (a - b))) }
  | .mul => some { v := .val (.int k (k.wrap (a * b))) }
  | .quo => some { v := .val (.int k (k.wrap (a.tdiv b))), side := b ≠ 0 }
  | .rem => some { v := .val (.int k (a.tmod b)), side := b ≠ 0 }
  | .eql => some { v := .val (.bool (decide (a = b))) }
  | .neq => some { v := .val (.bool (!decide (a = b))) }
  | .lss => some { v := .val (.bool (decide (a < b))) }
  | .leq => some { v := .val (.bool (decide (a ≤ b))) }
  | .gtr => some { v := .val (.bool (decide (a > b))) }
  | .geq => some { v := .val (.bool (decide (a ≥ b))) }
  | .shl => some { v := .val (.int k (k.wrap (a * 2 ^ (min b.toNat k.bits)))), side := 0 ≤ b }
  | .shr => some { v := .val (.int k (a.fdiv (2 ^ (min b.toNat k.bits)))), side := 0 ≤ b }
  | _ => none
def binS (op : BinOp) (a b : List UInt8) : Option Upd :=
  match op with
  | .add => some { v := .val (.str (a ++ b)), side := a.length + b.length ≤ 9223372036854775807 }
  | .eql => some { v := .val (.bool (decide (a = b))) }
  | .neq => some { v := .val (.bool (!decide (a = b))) }
  | .lss => some { v := .val (.bool (Op.bytesLess a b)) }
  | .leq => some { v := .val (.bool (Op.bytesLess a b || decide (a = b))) }
  | .gtr => some { v := .val (.bool (!(Op.bytesLess a b || decide (a = b)))) }
  | .geq => some { v := .val (.bool (!Op.bytesLess a b)) }
  | _ => none
def eqC : LK → IV → IV → Option Bool
  | .b, .bool a, .bool b => some (decide (a = b))
  | .i, .int k a, .int k' b => if k = k' then some (decide (a = b)) else none
  | .s, .str a, .str b => some (decide (a = b))
  | _, _, _ => none
def eqL : List LK → List IV → List IV → Option Bool
  | [], [], [] => some true
  | k :: ks, x :: xs, y :: ys => match eqC k x y, eqL ks xs ys with
    | some a, some b => some (a && b)
    | _, _ => none
  | _, _, _ => none

/-- The parts laid into the cells. -/
def fillSV (objs : List (Nat × Ob)) (σ : St) (cells : List SV) : List (Nat × Nat × Opd) → Option (List SV)
  | [] => some cells
  | (off, size, x) :: r => match cellsOf objs (val σ x) with
    | some cs => if cs.length = size ∧ off + size ≤ cells.length then fillSV objs σ (cells.take off ++ cs ++ cells.drop (off + size)) r else none
    | none => none
def chunks {α : Type} (s : Nat) : Nat → List α → List (List α)
  | 0, _ => []
  | n + 1, l => l.take s :: chunks s n (l.drop s)
def repeatL {α : Type} (l : List α) : Nat → List α
  | 0 => []
  | n + 1 => l ++ repeatL l n

def rowsOf (objs : List (Nat × Ob)) : SV → Option (List (List IV) × List Nat)
  | .nils => some ([], [])
  | .full rows => some (rows, [])
  | .nilT => some ([], [])
  | .town id ver => match look objs id with
    | some (.tab cv _ rows _) => if ver == cv then some (rows, [id]) else none
    | _ => none
  | .val (.slice rows) => some (rows, [])
  | .own id ver => match look objs id with
    | some (.arr cv _ rows) => if ver == cv then some (rows, [id]) else none
    | _ => none
  | .view id ver lo hi => match look objs id with
    | some (.arr cv _ rows) => if ver == cv then some ((rows.take hi).drop lo, [id]) else none
    | _ => none
  | _ => none

/-- What is known of the cells of rows that are appended. -/
def lnOf (objs : List (Nat × Ob)) : SV → List (Nat × Nat × SV)
  | .town id _ => match look objs id with
    | some (.tab _ _ _ ln) => ln
    | _ => []
  | _ => []
def intOf : SV → Option Int
  | .val (.int _ n) => some n
  | _ => none
def bound (σ : St) (dflt : Nat) : Option Opd → Option Int
  | none => some dflt
  | some x => intOf (val σ x)

def evLoad (σ : St) (g : Option Nat) : SV → Option Upd
  | .val (.ref cells) => match g with
    | some n => some { v := .val (.agg (cells.take n)), side := n ≤ cells.length }
    | none => match cells with
      | c :: _ => some { v := .val c }
      | [] => none
  | .loc id off => match look σ.objs id with
    | some (.box cells) => match g with
      | some n => some { v := mkAgg ((cells.drop off).take n), side := off + n ≤ cells.length }
      | none => match cells[off]? with
        | some c => some { v := c }
        | none => none
    | _ => none
  | .eloc id ver i off => match look σ.objs id with
    | some (.arr cv _ rows) => if ver == cv then match rows[i]? with
      | some row => match g with
        | some n => some { v := .val (.agg ((row.drop off).take n)), side := off + n ≤ row.length }
        | none => match row[off]? with
          | some c => some { v := .val c }
          | none => none
      | none => none else none
    | _ => none
  | .teloc id ver i off => match look σ.objs id with
    | some (.tab cv _ rows ln) => if ver == cv then match rows[i]? with
      | some row => match g with
        | some n => some { v := mkAgg (lnCells ln i off ((row.drop off).take n)), side := off + n ≤ row.length }
        | none => match row[off]? with
          | some c => some { v := lnCell ln i off c }
          | none => none
      | none => none else none
    | _ => none
  | _ => none
def evStore (σ : St) (n : Nat) (a x : SV) : Option Upd :=
  match cellsOf σ.objs x with
  | none => none
  | some cs => match a with
    | .loc id off => match look σ.objs id with
      | some (.box cells) => if σ.ro.contains id then none else
          some { side := cs.length = n ∧ off + n ≤ cells.length, wr := some (id, .box (cells.take off ++ cs ++ cells.drop (off + n))) }
      | _ => none
    | .eloc id ver i off => match look σ.objs id, toIVs1 σ.objs cs with
      | some (.arr cv s rows), some (vs, fz) => if σ.ro.contains id || fz.contains id then none else if ver == cv then match rows[i]? with
        | some row => some { side := cs.length = n ∧ off + n ≤ row.length, wr := some (id, .arr cv s (rows.set i (row.take off ++ vs ++ row.drop (off + n)))), fz := fz }
        | none => none else none
      | _, _ => none
    | .teloc id ver i off => match look σ.objs id, toIVs1 σ.objs cs with
      | some (.tab cv s rows ln), some (vs, fz) => if σ.ro.contains id || fz.contains id then none else if ver == cv then match rows[i]? with
        | some row => some { side := cs.length = n ∧ off + n ≤ row.length, wr := some (id, .tab cv s (rows.set i (row.take off ++ vs ++ row.drop (off + n))) (lnNew i off cs ++ lnCut i off (off + n) ln)), fz := fz }
        | none => none else none
      | _, _ => none
    | _ => none

def evPart (off : Nat) (g : Option Nat) : SV → Option Upd
  | .val (.agg cells) => match g with
    | some n => some { v := .val (.agg ((cells.drop off).take n)), side := off + n ≤ cells.length }
    | none => match cells[off]? with
      | some c => some { v := .val c }
      | none => none
  | .agg cells => match g with
    | some n => some { v := mkAgg ((cells.drop off).take n), side := off + n ≤ cells.length }
    | none => match cells[off]? with
      | some c => some { v := c }
      | none => none
  | _ => none

/-- A piece of an array of the call's own. -/
def evSub (σ : St) (s id ver s' lo0 hi0 len : Nat) (lo hi mx : Option Opd) : Option Upd :=
  match bound σ 0 lo, bound σ (hi0 - lo0) hi with
  | some l, some h => match mx with
    | none => some { v := .view id ver (lo0 + l.toNat) (lo0 + h.toNat), side := (0 ≤ l ∧ l ≤ h ∧ h ≤ (len - lo0 : Nat)) ∧ s' = s }
    | some m => match intOf (val σ m) with
      | some m => some { v := .undef, side := 0 ≤ l ∧ l ≤ h ∧ h ≤ m ∧ m ≤ (hi0 - lo0 : Nat) ∧ hi.isSome = true }
      | none => none
  | _, _ => none

/-- Zero cells as they are read. -/
def zeroIV : List SV → Option (List IV)
  | [] => some []
  | .val v :: r => match zeroIV r with
    | some vs => some (v :: vs)
    | none => none
  | .nils :: r => match zeroIV r with
    | some vs => some (.slice [] :: vs)
    | none => none
  | _ :: _ => none
/-- A piece of what cannot turn: where nothing stands in it, its room is known. -/
def subR (x : SV) (h : Int) (r : SV) : SV := match x with
  | .nils => .nils
  | .full rows => bif h == 0 then .emp rows.length else r
  | _ => r
/-- The value that stands at a key. -/
def mapFind (ks : List LK) (kc : List IV) : List (List IV × IV) → Option (Option IV)
  | [] => some none
  | (k, v) :: r => match eqL ks kc k with
    | some true => some (some v)
    | some false => mapFind ks kc r
    | none => none
def plnK : LK → IV → Bool
  | .b, .bool _ => true
  | .i, .int _ _ => true
  | .s, .str _ => true
  | _, _ => false
def plnL : List LK → List IV → Bool
  | [], [] => true
  | k :: ks, x :: xs => plnK k x && plnL ks xs
  | _, _ => false
/-- The bytes of rows. -/
def bytesOf : List (List IV) → Option (List UInt8)
  | [] => some []
  | [.int .u8 n] :: r => (bytesOf r).map (UInt8.ofNat n.toNat :: ·)
  | _ => none
def byteRows (s : List UInt8) : List (List IV) := s.map fun b => [.int .u8 b.toNat]
/-- What an operation does, that calls nothing. -/
def ev (σ : St) (dst : Option Nat) : VOp → Option Upd
  | .move x => some { v := val σ x }
  | .pick c a b => match val σ c with
    | .val (.bool t) => some { v := bif t then val σ a else val σ b }
    | _ => none
  | .alloc zero => match dst with
    | some d => some { v := .loc d 0, new := some (.box zero) }
    | none => none
  | .box x => match dst, cellsOf σ.objs (val σ x) with
    | some d, some cs => some { v := .loc d 0, new := some (.box cs) }
    | _, _ => none
  | .build zero parts => match fillSV σ.objs σ zero parts with
    | some cells => some { v := mkAgg cells }
    | none => none
  | .buildSlice s n zero parts => match dst, fillSV σ.objs σ (repeatL zero n) parts with
    | some d, some cells => match toIVs1 σ.objs cells with
      | some (vs, fz) => match lnRows s 0 cells with
        | [] => if s = 2 ∧ n = 1 then some { v := .full (chunks s n vs), fz := fz } else some { v := .own d 0, new := some (.arr 0 s (chunks s n vs)), fz := fz }
        | ln => some { v := .town d 0, new := some (.tab 0 s (chunks s n vs) ln), fz := fz }
      | none => none
    | _, _ => none
  | .load g x => evLoad σ g (val σ x)
  | .store n a x => evStore σ n (val σ a) (val σ x)
  | .nilCheck x => match val σ x with
    | .val (.ref cs) => some { v := .val (.ref cs) }
    | .loc id off => match look σ.objs id with
      | some (.box _) => some { v := .loc id off }
      | _ => none
    | .val (.fn f cs) => some { v := .val (.fn f cs) }
    | .clo f cs => some { v := .clo f cs }
    | .bdl f cs => some { v := .bdl f cs }
    | .selfN id _ true => match look σ.objs id with
      | some (.box _) => some { v := .loc id 0 }
      | _ => none
    | .eloc id ver i o => match look σ.objs id with
      | some (.arr cv _ _) => if ver == cv then some { v := .eloc id ver i o } else none
      | _ => none
    | .teloc id ver i o => match look σ.objs id with
      | some (.tab cv _ _ _) => if ver == cv then some { v := .teloc id ver i o } else none
      | _ => none
    | _ => none
  | .bin op x y => match val σ x, val σ y with
    | .val (.int k a), .val (.int k' b) => if k = k' then binI op k a b else none
    | .val (.str a), .val (.str b) => binS op a b
    | _, _ => none
  | .eqB neg x y => match val σ x, val σ y with
    | .val (.bool a), .val (.bool b) => some { v := .val (.bool (neg ^^ (a == b))) }
    | _, _ => none
  | .eqN neg x => match val σ x with
    | .val .nili => some { v := .val (.bool (!neg)) }
    | .val (.iface _ _) => some { v := .val (.bool neg) }
    | .ifc _ _ => some { v := .val (.bool neg) }
    | _ => none
  | .eqP neg x => match val σ x with
    | .val .nilp => some { v := .val (.bool (!neg)) }
    | .val (.ref _) => some { v := .val (.bool neg) }
    | .loc id _ => match look σ.objs id with
      | some (.box _) => some { v := .val (.bool neg) }
      | _ => none
    | _ => none
  | .eqS neg x => match rowsOf σ.objs (val σ x) with
    | some ([], _) => some { v := .anyB }
    | some (_ :: _, _) => some { v := .val (.bool neg) }
    | none => none
  | .eqA neg ks x y => match val σ x, val σ y with
    | .val (.agg xs), .val (.agg ys) => match eqL ks xs ys with
      | some b => some { v := .val (.bool (neg ^^ b)) }
      | none => none
    | _, _ => none
  | .un op x => match op, val σ x with
    | .neg, .val (.int k n) => some { v := .val (.int k (k.wrap (0 - n))) }
    | .not, .val (.bool b) => some { v := .val (.bool (!b)) }
    | _, _ => none
  | .convI k x => match val σ x with
    | .val (.int _ n) => some { v := .val (.int k (k.wrap n)) }
    | _ => none
  | .convS x => match val σ x with
    | .val (.str s) => some { v := .val (.str s) }
    | _ => none
  | .mkIface t x => match val σ x with
    | .val v => some { v := .val (.iface t v) }
    | .loc id off => some { v := .ifc t (.loc id off) }
    | _ => none
  | .mkFunc f caps => match caps with
    | [] => some { v := .val (.fn f []) }
    | _ => some { v := .clo f (caps.map (val σ)) }
  | .mkBound f first => match allVal (first.map (val σ)) with
    | some vs => some { v := .val (.bnd f vs) }
    | none => some { v := .bdl f (first.map (val σ)) }
  | .mkSlice s bytes zero len cap => match dst, val σ len, val σ cap, zeroIV zero with
    | some d, .val (.int .i64 l), .val (.int .i64 c), some z =>
      some { v := .own d 0, new := some (.arr 0 s (List.replicate l.toNat z)), side := 0 ≤ l ∧ l ≤ c ∧ c * bytes ≤ 281474976710656 ∧ c ≤ 9223372036854775807 }
    | _, _, _, _ => none
  | .subS x lo hi => match val σ x with
    | .val (.str s) => match bound σ 0 lo, bound σ s.length hi with
      | some l, some h => some { v := .val (.str ((s.take h.toNat).drop l.toNat)), side := 0 ≤ l ∧ l ≤ h ∧ h ≤ s.length }
      | _, _ => none
    | _ => none
  | .subV s x lo hi mx => match val σ x with
    | .own id ver => match look σ.objs id with
      | some (.arr cv s' rows) => if ver == cv then evSub σ s id ver s' 0 rows.length rows.length lo hi mx else none
      | _ => none
    | .view id ver lo0 hi0 => match look σ.objs id with
      | some (.arr cv s' rows) => if ver == cv then evSub σ s id ver s' lo0 hi0 rows.length lo hi mx else none
      | _ => none
    | _ => match rowsOf σ.objs (val σ x) with
    | some (rows, rd) => match bound σ 0 lo, bound σ rows.length hi with
      | some l, some h => match mx with
        | none => some { v := subR (val σ x) h (.val (.slice ((rows.take h.toNat).drop l.toNat))), side := (0 ≤ l ∧ l ≤ h ∧ h ≤ rows.length) ∧ ∀ row ∈ rows, row.length = s, fz := rd }
        | some m => match intOf (val σ m) with
          | some m => if m = 0 then some { v := .nils, side := l = 0 ∧ h = 0 ∧ hi.isSome = true } else some { v := .full ((rows.take h.toNat).drop l.toNat), side := (0 ≤ l ∧ l ≤ h ∧ h = m ∧ h ≤ rows.length ∧ hi.isSome = true) ∧ ∀ row ∈ rows, row.length = s, fz := rd }
          | none => none
      | _, _ => none
    | _ => none
  | .subA s n x lo hi => match toIV1 σ.objs (val σ x) with
    | some (.ref cells, fz) => match bound σ 0 lo, bound σ n hi with
      | some l, some r => some { v := .val (.slice (chunks s (r.toNat - l.toNat) ((cells.drop (l.toNat * s)).take ((r.toNat - l.toNat) * s)))), side := 0 ≤ l ∧ l ≤ r ∧ r ≤ n ∧ n * s ≤ cells.length, fz := fz }
      | _, _ => none
    | _ => none
  | .fieldAddr off x => match val σ x with
    | .val (.ref cells) => some { v := .val (.ref (cells.drop off))  }
    | .loc id o => match look σ.objs id with
      | some (.box _) => some { v := .loc id (o + off) }
      | _ => none
    | .eloc id ver i o => match look σ.objs id with
      | some (.arr cv _ _) => if ver == cv then some { v := .eloc id ver i (o + off) } else none
      | _ => none
    | .teloc id ver i o => match look σ.objs id with
      | some (.tab cv _ _ _) => if ver == cv then some { v := .teloc id ver i (o + off) } else none
      | _ => none
    | _ => none
  | .field off g x => evPart off g (val σ x)
  | .indexAddr s x i => match val σ i with
    | .val (.int _ i) => if 0 ≤ i then match val σ x with
      | .val (.slice rows) => match rows[i.toNat]? with
        | some row => some { v := .val (.ref row), side := row.length = s }
        | none => none
      | .full rows => match rows[i.toNat]? with
        | some row => some { v := .val (.ref row), side := row.length = s }
        | none => none
      | .own id ver => match look σ.objs id with
        | some (.arr cv s' rows) => if ver == cv then some { v := .eloc id ver i.toNat 0, side := i.toNat < rows.length ∧ s' = s } else none
        | _ => none
      | .town id ver => match look σ.objs id with
        | some (.tab cv s' rows _) => if ver == cv then some { v := .teloc id ver i.toNat 0, side := i.toNat < rows.length ∧ s' = s } else none
        | _ => none
      | .view id ver lo hi => match look σ.objs id with
        | some (.arr cv s' rows) => if ver == cv then some { v := .eloc id ver (lo + i.toNat) 0, side := i.toNat < hi - lo ∧ s' = s } else none
        | _ => none
      | _ => none else none
    | _ => none
  | .indexArr len s x i => match val σ x, val σ i with
    | .loc id o, .val (.int _ i) => match look σ.objs id with
      | some (.box _) => some { v := .loc id (o + i.toNat * s), side := 0 ≤ i ∧ i < len }
      | _ => none
    | .val (.ref cells), .val (.int _ i) => some { v := .val (.ref (cells.drop (i.toNat * s))), side := 0 ≤ i ∧ i < len }
    | _, _ => none
  | .indexS x i => match val σ x, val σ i with
    | .val (.str s), .val (.int _ i) => if 0 ≤ i then match s[i.toNat]? with
      | some b => some { v := .val (.int .u8 b.toNat) }
      | none => none else none
    | _, _ => none
  | .indexA len s g x i => match val σ i with
    | .val (.int _ i) => if 0 ≤ i ∧ i < len then evPart (i.toNat * s) g (val σ x) else none
    | _ => none
  | .extract x i => match val σ x with
    | .val (.tuple vs) => match vs[i]? with
      | some v => some { v := .val v }
      | none => none
    | .tup vs => match vs[i]? with
      | some v => some { v := v }
      | none => none
    | _ => none
  | .lenS x => match val σ x with
    | .val (.str s) => some { v := .val (.int .i64 s.length) }
    | _ => none
  | .lenV x => match val σ x with
    | .view id ver lo hi => match look σ.objs id with
      | some (.arr cv _ rows) => if ver == cv then some { v := .val (.int .i64 (hi - lo : Nat)) } else none
      | _ => none
    | _ => match rowsOf σ.objs (val σ x) with
    | some (rows, rd) => some { v := .val (.int .i64 rows.length) }
    | none => none
  | .lenC n _ => some { v := .val (.int .i64 n) }
  | .maxI x y => match val σ x, val σ y with
    | .val (.int k a), .val (.int k' b) => if k = k' then some { v := .val (.int k (max a b)) } else none
    | _, _ => none
  | .minI x y => match val σ x, val σ y with
    | .val (.int k a), .val (.int k' b) => if k = k' then some { v := .val (.int k (min a b)) } else none
    | _, _ => none
  | .rangeS x => match dst, val σ x with
    | some d, .val (.str s) => some { v := .itr d, new := some (.iter (.str s) 0) }
    | _, _ => none
  | .nextS x => match val σ x with
    | .itr id => match look σ.objs id with
      | some (.iter (.str s) p) => if p < s.length then some { v := .val (.tuple [.bool true, .int .i64 p, .int .i32 ((Utf8.decode ⟨s.toArray⟩ p).1 : Nat)]), wr := some (id, .iter (.str s) (p + (Utf8.decode ⟨s.toArray⟩ p).2)) }
        else some { v := .val (.tuple [.bool false]) }
      | _ => none
    | _ => none
  | .convB x => match rowsOf σ.objs (val σ x) with
    | some (rows, _) => match bytesOf rows with
      | some bs => some { v := .val (.str bs) }
      | none => none
    | none => none
  | .appendS e bytes x y => match val σ y with
    | .val (.str bs) => match val σ x with
      | .own id ver => match look σ.objs id with
        | some (.arr cv s' rows) => if ver == cv then
            some { v := .own id (cv + 1), wr := some (id, .arr (cv + 1) 1 (rows ++ byteRows bs)), side := s' = 1 ∧ (rows.length + bs.length) * bytes ≤ 35184372088832 } else none
        | _ => none
      | .ownT id ver t => match look σ.objs id with
        | some (.arr cv s' rows) => if ver == cv && t == e then
            some { v := .ownT id (cv + 1) t, wr := some (id, .arr (cv + 1) 1 (rows ++ byteRows bs)), side := s' = 1 ∧ (rows.length + bs.length) * bytes ≤ 35184372088832 } else none
        | _ => none
      | _ => none
    | _ => none
  | .eqL neg x y => match val σ x, val σ y with
    | .loc id off, .loc id' off' => match look σ.objs id with
      | some (.box _) => if id == id' && off == off' then some { v := .val (.bool (!neg)) } else none
      | _ => none
    | _, _ => none
  | .convR x => match val σ x with
    | .val (.int _ n) => some { v := .val (.str (Utf8.encode n).data.toList) }
    | _ => none
  | .allocB t => match dst with
    | some d => some { v := .selfN d t true, new := some (.box [.val .nilp, .val .nilS]) }
    | none => none
  | .capV x => match val σ x with
    | .nils => some { v := .val (.int .i64 0) }
    | .full rows => some { v := .val (.int .i64 rows.length) }
    | _ => none
  | .mkMap => match dst with
    | some d => some { v := .itr d, new := some (.iter (.map []) 0) }
    | none => none
  | .mapSet ks m k x => match val σ m, val σ k, val σ x with
    | .itr id, .val (.agg kc), .val (.int kk n) => match look σ.objs id with
      | some (.iter (.map es) p) => match mapFind ks kc es with
        | some none => if p = es.length ∧ plnL ks kc = true then some { wr := some (id, .iter (.map (es ++ [(kc, .int kk n)])) (p + 1)) } else none
        | _ => none
      | _ => none
    | _, _, _ => none
  | .mapGet ks m k => match val σ m, val σ k with
    | .itr id, .val (.agg kc) => match look σ.objs id with
      | some (.iter (.map es) _) => match mapFind ks kc es with
        | some (some (.int kk n)) => if plnL ks kc = true then some { v := .val (.int kk n) } else none
        | _ => none
      | _ => none
    | _, _ => none
  | .appendZ s bytes zero x y => match dst, val σ y, allVal zero with
    | some d, .val (.int _ n), some z => match val σ x with
      | .nils => some { v := .own d 0, new := some (.arr 0 s (List.replicate n.toNat z)), side := 0 < n ∧ n.toNat * bytes ≤ 35184372088832 }
      | .emp c => some { v := .own d 0, new := some (.arr 0 s (List.replicate n.toNat z)), side := (c : Int) < n ∧ n.toNat * bytes ≤ 35184372088832 }
      | _ => none
    | _, _, _ => none
  | .bad => none
  | .append e s bytes x y => match rowsOf σ.objs (val σ y) with
    | none => none
    | some (new, rd) => match val σ x with
      | .nils => match dst, lnOf σ.objs (val σ y) with
        | some d, [] => some { v := .own d 0, new := some (.arr 0 s new), side := new.length * bytes ≤ 35184372088832 ∧ ∀ r ∈ new, r.length = s }
        | some d, ln => some { v := .town d 0, new := some (.tab 0 s new ln), side := new ≠ [] ∧ new.length * bytes ≤ 35184372088832 ∧ ∀ r ∈ new, r.length = s }
        | none, _ => none
      | .nilT => match dst with
        | some d => some { v := .town d 0, new := some (.tab 0 s new (lnOf σ.objs (val σ y))), side := new ≠ [] ∧ new.length * bytes ≤ 35184372088832 ∧ ∀ r ∈ new, r.length = s }
        | none => none
      | .town id ver => match look σ.objs id with
        | some (.tab cv s' rows ln) => if ver == cv && !rd.contains id && !σ.ro.contains id then
            some { v := .town id (cv + 1), wr := some (id, .tab (cv + 1) s (rows ++ new) (ln ++ lnShift rows.length (lnOf σ.objs (val σ y)))), side := s' = s ∧ new ≠ [] ∧ (rows.length + new.length) * bytes ≤ 35184372088832 ∧ ∀ r ∈ new, r.length = s } else none
        | _ => none
      | .full rows => match dst with
        | some d => some { v := .own d 0, new := some (.arr 0 s (rows ++ new)), side := new ≠ [] ∧ (rows.length + new.length) * bytes ≤ 35184372088832 ∧ (∀ r ∈ rows, r.length = s) ∧ ∀ r ∈ new, r.length = s }
        | none => none
      | .own id ver => match look σ.objs id with
        | some (.arr cv s' rows) => if ver == cv && !rd.contains id then
            some { v := .own id (cv + 1), wr := some (id, .arr (cv + 1) s (rows ++ new)), side := s' = s ∧ (rows.length + new.length) * bytes ≤ 35184372088832 ∧ ∀ r ∈ new, r.length = s } else none
        | _ => none
      | .ownT id ver t => match look σ.objs id with
        | some (.arr cv s' rows) => if ver == cv && !rd.contains id && t == e then
            some { v := .ownT id (cv + 1) t, wr := some (id, .arr (cv + 1) s (rows ++ new)), side := s' = s ∧ (rows.length + new.length) * bytes ≤ 35184372088832 ∧ ∀ r ∈ new, r.length = s } else none
        | _ => none
      | .view id ver lo hi => match look σ.objs id with
        | some (.arr cv s' rows) => if ver == cv && lo == 0 && !σ.ro.contains id then
            if rd.contains id then match val σ y with
              | .view id2 _ lo2 hi2 => if id2 == id then some { v := .view id cv 0 (hi + (hi2 - lo2)), wr := some (id, .arr cv s (rows.take hi ++ ((rows.take hi2).drop lo2 ++ rows.drop (hi + (hi2 - lo2))))), side := s' = s ∧ hi ≤ lo2 ∧ lo2 ≤ hi2 } else none
              | _ => none
            else some { v := .own id (cv + 2), wr := some (id, .arr (cv + 2) s (rows.take hi ++ new)), side := s' = s ∧ (hi + new.length) * bytes ≤ 35184372088832 ∧ ∀ r ∈ new, r.length = s }
          else none
        | _ => none
      | _ => none
  | .clear zero x => match allVal zero with
    | none => none
    | some z => match val σ x with
      | .nils => some { v := .val (.tuple []) }
      | .own id ver => match look σ.objs id with
        | some (.arr cv s rows) => if ver == cv && !σ.ro.contains id then some { v := .val (.tuple []), wr := some (id, .arr cv s (List.replicate rows.length z)), side := z.length = s ∧ 0 < s } else none
        | _ => none
      | .view id ver lo hi => match look σ.objs id with
        | some (.arr cv s rows) => if ver == cv && !σ.ro.contains id then some { v := .val (.tuple []), wr := some (id, .arr cv s (rows.take lo ++ (List.replicate (hi - lo) z ++ rows.drop hi))), side := z.length = s ∧ 0 < s } else none
        | _ => none
      | _ => none
  | .copy s x y => match rowsOf σ.objs (val σ y) with
    | none => none
    | some (new, _) => match val σ x with
      | .nils => some { v := .val (.int .i64 0) }
      | .own id ver => match look σ.objs id with
        | some (.arr cv s' rows) => if ver == cv && !σ.ro.contains id then some { v := .val (.int .i64 (min new.length rows.length : Nat)), wr := some (id, .arr cv s (new.take rows.length ++ rows.drop (min new.length rows.length))), side := s' = s ∧ (∀ r ∈ new, r.length = s) ∧ 0 < s } else none
        | _ => none
      | .view id ver lo hi => match look σ.objs id with
        | some (.arr cv s' rows) => if ver == cv && !σ.ro.contains id then some { v := .val (.int .i64 (min new.length (hi - lo) : Nat)), wr := some (id, .arr cv s (rows.take lo ++ (new.take (hi - lo) ++ rows.drop (lo + min new.length (hi - lo))))), side := s' = s ∧ (∀ r ∈ new, r.length = s) ∧ 0 < s } else none
        | _ => none
      | _ => none
  | _ => none

end Go.Vs
set_option linter.unusedVariables false
set_option linter.unusedSimpArgs false
namespace Go.Vs

section
variable {w0 w : World} {S0 S : Stab} {M : Ctx} {σ : St} {a : Act} {μ : Nat → Value} {β : Nat → Option Nat}

theorem constSV1_sound {objs : List (Nat × Ob)} {v : Value} {x : SV} (h : constSV1 v = some x) : SVRel w S μ objs x v := by
  unfold constSV1 at h
  split at h <;> (try (simp at h; done)) <;> (obtain rfl := Option.some.inj h)
  all_goals (first | rfl | exact ⟨none, rfl⟩ | trivial | skip)
theorem constSVs_sound {objs : List (Nat × Ob)} : ∀ {vs : List Value} {xs : List SV}, constSVs vs = some xs → SVOnes w S μ objs xs vs
  | [], xs, h => by
    simp only [constSVs, Option.some.injEq] at h
    subst h; rfl
  | v :: r, xs, h => by
    simp only [constSVs] at h
    split at h
    · next x ys h1 h2 =>
      obtain rfl := Option.some.inj h
      refine ⟨v, r, rfl, ?_, constSV1_sound h1, constSVs_sound h2⟩
      unfold constSV1 at h1
      split at h1 <;> first | (simp at h1; done) | rfl
    · simp at h
theorem mkAgg_sound {objs : List (Nat × Ob)} {cells : List SV} {vs : List Value} (h : SVOnes w S μ objs cells vs) :
    SVRel w S μ objs (mkAgg cells) (.agg vs.toArray) := by
  unfold mkAgg
  split
  · next ys hy =>
    have := allVal_spec hy
    subst this
    exact ⟨vs.toArray, rfl, by simpa using SVOnes.toRep h⟩
  · exact ⟨vs.toArray, rfl, by simpa using h⟩
theorem constSV_sound {objs : List (Nat × Ob)} {v : Value} {x : SV} (h : constSV v = some x) : SVRel w S μ objs x v := by
  unfold constSV at h
  split at h
  · next cs =>
    split at h
    · next xs hx =>
      obtain rfl := Option.some.inj h
      exact ⟨cs, rfl, constSVs_sound hx⟩
    · simp at h
  · exact constSV1_sound h

theorem look_mem {α : Type} : ∀ {l : List (Nat × α)} {k : Nat} {v : α}, look l k = some v → (k, v) ∈ l
  | [], _, _, h => by simp [look] at h
  | (j, u) :: r, k, v, h => by
    simp only [look] at h
    cases hj : j == k with
    | true =>
      rw [hj] at h
      rw [beq_iff_eq] at hj
      subst hj
      simp only [cond_true, Option.some.injEq] at h
      subst h
      exact List.mem_cons_self
    | false =>
      rw [hj] at h
      exact List.mem_cons_of_mem _ (look_mem h)
theorem opd_sound (h : SimG w0 S0 M σ a w S μ β) {x : Operand} {y : Opd} (hc : compOpd x = some y) : SVRel w S μ σ.objs (val σ y) (a.eval x) := by
  cases x with
  | tmp t => simp only [compOpd, Option.some.injEq] at hc; subst hc; exact h.env t
  | const v =>
    simp only [compOpd, Option.map_eq_some_iff] at hc
    obtain ⟨s, h1, rfl⟩ := hc
    exact constSV_sound h1
  | global g =>
    simp only [compOpd, Option.some.injEq] at hc
    subst hc
    simp only [val]
    split
    · next cells hl => exact ⟨g, 0, rfl, (h.glob (g, cells) (look_mem hl)).1⟩
    · trivial
  | func f => simp only [compOpd, Option.some.injEq] at hc; subst hc; exact ⟨#[], rfl, rfl⟩
theorem opds_sound (h : SimG w0 S0 M σ a w S μ β) : ∀ {x : List Operand} {y : List Opd}, compOpds x = some y → SVList w S μ σ.objs (y.map (val σ)) (x.map a.eval)
  | [], y, hc => by
    simp only [compOpds, Option.some.injEq] at hc
    subst hc; rfl
  | x :: r, y, hc => by
    simp only [compOpds] at hc
    split at hc
    · next u us h1 h2 =>
      obtain rfl := Option.some.inj hc
      exact ⟨_, _, rfl, opd_sound h h1, opds_sound h h2⟩
    · simp at hc

theorem okCell_sound (h : SimG w0 S0 M σ a w S μ β) {x : SV} {v : Value} (ho : okCell σ.objs x = true) (hr : SVRel w S μ σ.objs x v) : v.oneCell' = true := by
  cases x with
  | undef => simp [okCell] at ho
  | val x => exact IV.one_oneCell ho hr
  | nils => obtain ⟨a, rfl⟩ := hr; rfl
  | full rows => obtain ⟨_, a, rfl⟩ := hr; rfl
  | own id ver =>
    simp only [okCell] at ho
    split at ho
    · next cv s rows hl =>
      have hver : ver = cv := by simpa using ho
      obtain rfl := (hr _ _ _ hl).2 hver
      rcases h.objs id _ hl with ⟨_, _, a, h1⟩ | ⟨_, _, _, _, _, _, h1, _⟩ <;> (rw [h1]; rfl)
    · simp at ho
  | loc id off =>
    simp only [okCell] at ho
    split at ho
    · next cells hl =>
      obtain ⟨b, _, rfl⟩ := hr _ hl
      rfl
    · simp at ho
  | eloc => simp [okCell] at ho
  | view id ver lo hi =>
    simp only [okCell] at ho
    split at ho
    · next cv s rows hl =>
      have hver : ver = cv := by simpa using ho
      obtain ⟨_, _, a, cap, a', _, h2, _⟩ := (hr _ _ _ hl).2 hver
      rw [h2]; rfl
    · simp at ho
  | agg => simp [okCell] at ho
  | tup => simp [okCell] at ho
  | clo f caps => obtain ⟨vs, rfl, _⟩ := hr; rfl
  | ifc t x => obtain ⟨u, rfl, _⟩ := hr; rfl
  | anyB => simp [okCell] at ho
  | ownT id ver ty =>
    simp only [okCell] at ho
    split at ho
    · next cv s rows hl =>
      have hver : ver = cv := by simpa using ho
      obtain rfl := (hr.1 _ _ _ hl).2 hver
      rcases h.objs id _ hl with ⟨_, _, a, h1⟩ | ⟨_, _, _, _, _, _, h1, _⟩ <;> (rw [h1]; rfl)
    · simp at ho
  | selfN id t nn =>
    simp only [okCell] at ho
    split at ho
    · next cells hl =>
      obtain ⟨b, _, _, ⟨_, rfl⟩ | rfl⟩ := hr _ hl <;> rfl
    · simp at ho
  | itr id =>
    simp only [okCell] at ho
    split at ho
    · next s p hl =>
      obtain rfl := hr _ _ hl
      obtain ⟨b, _, h1, _⟩ := h.objs id _ hl
      rw [h1]
      cases s <;> rfl
    · simp at ho
  | nilT => obtain ⟨a, rfl⟩ := hr; rfl
  | emp => simp [okCell] at ho
  | bdl => simp [okCell] at ho
  | town id ver =>
    simp only [okCell] at ho
    split at ho
    · next cv s rows ln hl =>
      have hver : ver = cv := by simpa using ho
      obtain rfl := (hr _ _ _ _ hl).2 hver
      rcases h.objs id _ hl with ⟨_, _, _, a, h1⟩ | ⟨_, _, _, _, _, _, h1, _⟩ <;> (rw [h1]; rfl)
    · simp at ho
  | teloc => simp [okCell] at ho

theorem cellsOf_sound (h : SimG w0 S0 M σ a w S μ β) {x : SV} {v : Value} {cs : List SV} (hr : SVRel w S μ σ.objs x v) (hc : cellsOf σ.objs x = some cs) :
    SVOnes w S μ σ.objs cs v.cells.toList := by
  unfold cellsOf at hc
  split at hc
  · next xs =>
    obtain rfl := Option.some.inj hc
    obtain ⟨vs, rfl, h2⟩ := hr
    exact SVOnes.ofRep h2
  · next cells =>
    obtain rfl := Option.some.inj hc
    obtain ⟨vs, rfl, h2⟩ := hr
    exact h2
  · split at hc
    · next ho =>
      obtain rfl := Option.some.inj hc
      have h1 := okCell_sound h ho hr
      have : v.cells = #[v] := by cases v <;> first | rfl | simp [Value.oneCell'] at h1
      rw [this]
      exact ⟨v, [], rfl, h1, hr, rfl⟩
    · simp at hc

/-- The stable cells, and those of what is frozen. -/
def Plus (S : Stab) (β : Nat → Option Nat) (objs : List (Nat × Ob)) (fz : List Nat) : Stab := fun b off => S b off ∨ frzCells β objs fz b off

theorem frzCells_mono {objs : List (Nat × Ob)} {fz fz' : List Nat} (hs : ∀ i, i ∈ fz → i ∈ fz') {b off : Nat} (h : frzCells β objs fz b off) : frzCells β objs fz' b off :=
  let ⟨id, o, h1, h2⟩ := h; ⟨id, o, hs _ h1, h2⟩

theorem arr_rep (h : SimG w0 S0 M σ a w S μ β) {id cv s : Nat} {rows : List (List IV)} (hl : look σ.objs id = some (.arr cv s rows)) {fz : List Nat} (hf : id ∈ fz) :
    Rep w (Plus S β σ.objs fz) (.slice rows) (μ id) := by
  rcases h.objs id _ hl with ⟨rfl, _, x, hx⟩ | ⟨b, cap, vs, e, fr, hb, hm, hh, _, hsz, hle, hlen, hrep⟩
  · exact ⟨x, 0, by simpa using hx, Nat.le_refl _, fun hn => absurd rfl hn⟩
  · refine ⟨_, cap, hm, hle, fun _ => ⟨b, 0, s, rfl, RepRows.ofFlat hlen ?_⟩⟩
    have hfl := flatten_length hlen
    refine RepCells.intro (RepOnes.mono (Keeps.refl _ _) (fun _ _ x => .inl x) _ _ hrep) (fun j hj => .inr ⟨id, _, hf, hl, hb, ?_⟩) (fun j v hj => ?_)
    · intro ver s' rows' e
      simp only [Ob.arr.injEq] at e
      obtain ⟨_, rfl, rfl⟩ := e
      omega
    · rw [cell_row hh]
      have hj' := List.getElem?_take (l := vs.toList) (i := rows.length * s) (j := j)
      rw [hj] at hj'
      split at hj'
      · rw [Array.getElem?_toList] at hj'; simpa using hj'.symm
      · simp at hj'

theorem tab_rep (h : SimG w0 S0 M σ a w S μ β) {id cv s : Nat} {rows : List (List IV)} {ln : List (Nat × Nat × SV)} (hl : look σ.objs id = some (.tab cv s rows ln)) {fz : List Nat} (hf : id ∈ fz) :
    Rep w (Plus S β σ.objs fz) (.slice rows) (μ id) := by
  rcases h.objs id _ hl with ⟨rfl, _, _, x, hx⟩ | ⟨b, cap, vs, e, fr, hb, hm, hh, _, hsz, hle, hlen, hrep, _⟩
  · exact ⟨x, 0, by simpa using hx, Nat.le_refl _, fun hn => absurd rfl hn⟩
  refine ⟨_, cap, hm, hle, fun _ => ⟨b, 0, s, rfl, RepRows.ofFlat hlen ?_⟩⟩
  have hfl := flatten_length hlen
  refine RepCells.intro (RepOnes.mono (Keeps.refl _ _) (fun _ _ x => .inl x) _ _ hrep) (fun j hj => .inr ⟨id, _, hf, hl, hb, ?_⟩) (fun j v hj => ?_)
  · intro ver s' rows' e
    cases e
  · rw [cell_row hh]
    have hj' := List.getElem?_take (l := vs.toList) (i := rows.length * s) (j := j)
    rw [hj] at hj'
    split at hj'
    · rw [Array.getElem?_toList] at hj'; simpa using hj'.symm
    · simp at hj'

theorem view_rep (h : SimG w0 S0 M σ a w S μ β) {id cv s lo hi : Nat} {rows : List (List IV)} (hl : look σ.objs id = some (.arr cv s rows)) {fz : List Nat} (hf : id ∈ fz) {v : Value} (hr : SVRel w S μ σ.objs (.view id cv lo hi) v) :
    Rep w (Plus S β σ.objs fz) (.slice ((rows.take hi).drop lo)) v := by
  obtain ⟨g1, g2, x, cap, y, g3, rfl, g5, g6⟩ := (hr _ _ _ hl).2 rfl
  obtain ⟨x', cap', e1, e2, e3⟩ := arr_rep h hl hf
  rw [g3] at e1
  simp only [Value.slice.injEq] at e1
  obtain ⟨rfl, _, rfl⟩ := e1
  have hlen : ((rows.take hi).drop lo).length = hi - lo := by rw [List.length_drop, List.length_take]; omega
  refine ⟨y, cap - lo, by rw [hlen], by rw [hlen]; omega, fun hne => ?_⟩
  have hlt : lo < hi := by
    rcases Nat.lt_or_ge lo hi with hh | hh
    · exact hh
    · exfalso
      exact hne (List.length_eq_zero_iff.1 (by rw [hlen]; omega))
  have hrne : rows ≠ [] := by intro e; subst e; simp at g2; omega
  obtain ⟨b, off, s', q1, q2⟩ := e3 hrne
  obtain ⟨b', k1, k2⟩ := g6 (by omega)
  rw [k1] at q1
  simp only [Option.some.injEq, Addr.mk.injEq, and_true] at q1
  obtain ⟨rfl, rfl⟩ := q1
  have hss : s' = s := by
    obtain ⟨row, hrow⟩ := List.exists_mem_of_ne_nil rows hrne
    have l1 := RepRows.lens q2 row hrow
    rcases h.objs id _ hl with ⟨z, _⟩ | ⟨_, _, _, _, _, _, _, _, _, _, _, l2, _⟩
    · exact absurd z hrne
    · rw [← l1, l2 row hrow]
  subst hss
  refine ⟨b', lo * s', s', k2, ?_⟩
  simpa using RepRows.drop lo (RepRows.take hi q2)

theorem toIV0_sound (h : SimG w0 S0 M σ a w S μ β) {x : SV} {v : Value} {iv : IV} {fz fz' : List Nat} (hc : toIV0 σ.objs x = some (iv, fz)) (hf : ∀ i, i ∈ fz → i ∈ fz')
    (hr : SVRel w S μ σ.objs x v) : Rep w (Plus S β σ.objs fz') iv v := by
  cases x with
  | undef => simp [toIV0] at hc
  | val x =>
    simp only [toIV0, Option.some.injEq, Prod.mk.injEq] at hc
    obtain ⟨rfl, rfl⟩ := hc
    exact Rep.mono (Keeps.refl _ _) (fun _ _ x => .inl x) _ _ hr
  | nils =>
    simp only [toIV0, Option.some.injEq, Prod.mk.injEq] at hc
    obtain ⟨rfl, rfl⟩ := hc
    obtain ⟨x, rfl⟩ := hr
    exact ⟨x, 0, rfl, Nat.le_refl _, fun hn => absurd rfl hn⟩
  | full rows =>
    simp only [toIV0, Option.some.injEq, Prod.mk.injEq] at hc
    obtain ⟨rfl, rfl⟩ := hc
    exact Rep.mono (Keeps.refl _ _) (fun _ _ x => .inl x) _ _ hr.1
  | own id ver =>
    simp only [toIV0] at hc
    split at hc
    · next cv s rows hl =>
      split at hc
      · next hv =>
        simp only [Option.some.injEq, Prod.mk.injEq] at hc
        obtain ⟨rfl, rfl⟩ := hc
        have hver : ver = cv := by simpa using hv
        obtain rfl := (hr _ _ _ hl).2 hver
        exact arr_rep h hl (hf _ (by simp))
      · simp at hc
    · simp at hc
  | view id ver lo hi =>
    simp only [toIV0] at hc
    split at hc
    · next cv s rows hl =>
      split at hc
      · next hv =>
        simp only [Option.some.injEq, Prod.mk.injEq] at hc
        obtain ⟨rfl, rfl⟩ := hc
        obtain rfl : ver = cv := by simpa using hv
        exact view_rep h hl (hf _ (by simp)) hr
      · simp at hc
    · simp at hc
  | loc => simp [toIV0] at hc
  | eloc => simp [toIV0] at hc
  | agg => simp [toIV0] at hc
  | tup => simp [toIV0] at hc
  | clo => simp [toIV0] at hc
  | emp => simp [toIV0] at hc
  | bdl => simp [toIV0] at hc
  | ifc => simp [toIV0] at hc
  | anyB => simp [toIV0] at hc
  | selfN => simp [toIV0] at hc
  | ownT => simp [toIV0] at hc
  | itr => simp [toIV0] at hc
  | nilT =>
    simp only [toIV0, Option.some.injEq, Prod.mk.injEq] at hc
    obtain ⟨rfl, rfl⟩ := hc
    obtain ⟨x, rfl⟩ := hr
    exact ⟨x, 0, rfl, Nat.le_refl _, fun hn => absurd rfl hn⟩
  | town id ver =>
    simp only [toIV0] at hc
    split at hc
    · next cv s rows ln hl =>
      split at hc
      · next hv =>
        simp only [Option.some.injEq, Prod.mk.injEq] at hc
        obtain ⟨rfl, rfl⟩ := hc
        have hver : ver = cv := by simpa using hv
        obtain rfl := (hr _ _ _ _ hl).2 hver
        exact tab_rep h hl (hf _ (by simp))
      · simp at hc
    · simp at hc
  | teloc => simp [toIV0] at hc

theorem toIVs0_sound (h : SimG w0 S0 M σ a w S μ β) : ∀ {xs : List SV} {vs : List Value} {ivs : List IV} {fz fz' : List Nat}, toIVs0 σ.objs xs = some (ivs, fz) → (∀ i, i ∈ fz → i ∈ fz') →
    SVOnes w S μ σ.objs xs vs → RepOnes w (Plus S β σ.objs fz') ivs vs
  | [], vs, ivs, fz, fz', hc, hf, hr => by
    simp only [toIVs0, Option.some.injEq, Prod.mk.injEq] at hc
    obtain ⟨rfl, rfl⟩ := hc
    exact hr
  | x :: xs, vs, ivs, fz, fz', hc, hf, ⟨u, us, h1, h0, h2, h3⟩ => by
    simp only [toIVs0] at hc
    split at hc
    · next y f ys fs e1 e2 =>
      simp only [Option.some.injEq, Prod.mk.injEq] at hc
      obtain ⟨rfl, rfl⟩ := hc
      subst h1
      have h4 := toIV0_sound h e1 (fun i hi => hf i (List.mem_append_left _ hi)) h2
      exact ⟨u, us, rfl, IV.oneCell_one h0 h4, h4, toIVs0_sound h e2 (fun i hi => hf i (List.mem_append_right _ hi)) h3⟩
    · simp at hc

theorem toIV1_sound (h : SimG w0 S0 M σ a w S μ β) {x : SV} {v : Value} {iv : IV} {fz fz' : List Nat} (hc : toIV1 σ.objs x = some (iv, fz)) (hf : ∀ i, i ∈ fz → i ∈ fz')
    (hr : SVRel w S μ σ.objs x v) : Rep w (Plus S β σ.objs fz') iv v := by
  unfold toIV1 at hc
  split at hc
  · next id off =>
    split at hc
    · next cells hl =>
      split at hc
      · next vs fs hv =>
        · simp only [Option.some.injEq, Prod.mk.injEq] at hc
          obtain ⟨rfl, rfl⟩ := hc
          obtain ⟨b, hm, rfl⟩ := hr _ hl
          obtain ⟨b', us, e, fr, hb, hm', hh, _, hs⟩ := h.objs id _ hl
          obtain rfl : b' = b := by rw [hm] at hm'; simpa using hm'.symm
          refine ⟨b', off, rfl, ?_⟩
          have hrep := toIVs0_sound h hv (fun i hi => hf i (List.mem_cons_of_mem _ hi)) hs
          have hcells : RepCells w (Plus S β σ.objs fz') vs b' 0 := RepCells.intro hrep (fun j hj => .inr ⟨id, _, hf _ (by simp), hl, hb, fun _ _ _ hx => by simp at hx⟩)
            (fun j u hj => by rw [cell_row hh]; rw [Array.getElem?_toList] at hj; simpa using hj)
          simpa using RepCells.drop off hcells
      · simp at hc
    · simp at hc
  · exact toIV0_sound h hc hf hr

theorem toIVs1_soundOnes (h : SimG w0 S0 M σ a w S μ β) : ∀ {xs : List SV} {vs : List Value} {ivs : List IV} {fz fz' : List Nat}, toIVs1 σ.objs xs = some (ivs, fz) → (∀ i, i ∈ fz → i ∈ fz') →
    SVOnes w S μ σ.objs xs vs → RepOnes w (Plus S β σ.objs fz') ivs vs
  | [], vs, ivs, fz, fz', hc, hf, hr => by
    simp only [toIVs1, Option.some.injEq, Prod.mk.injEq] at hc
    obtain ⟨rfl, rfl⟩ := hc
    exact hr
  | x :: xs, vs, ivs, fz, fz', hc, hf, ⟨u, us, h1, h0, h2, h3⟩ => by
    simp only [toIVs1] at hc
    split at hc
    · next y f ys fs e1 e2 =>
      simp only [Option.some.injEq, Prod.mk.injEq] at hc
      obtain ⟨rfl, rfl⟩ := hc
      subst h1
      have h4 := toIV1_sound h e1 (fun i hi => hf i (List.mem_append_left _ hi)) h2
      exact ⟨u, us, rfl, IV.oneCell_one h0 h4, h4, toIVs1_soundOnes h e2 (fun i hi => hf i (List.mem_append_right _ hi)) h3⟩
    · simp at hc
theorem toIVs1_sound (h : SimG w0 S0 M σ a w S μ β) : ∀ {xs : List SV} {vs : List Value} {ivs : List IV} {fz fz' : List Nat}, toIVs1 σ.objs xs = some (ivs, fz) → (∀ i, i ∈ fz → i ∈ fz') →
    SVList w S μ σ.objs xs vs → RepList w (Plus S β σ.objs fz') ivs vs
  | [], vs, ivs, fz, fz', hc, hf, hr => by
    simp only [toIVs1, Option.some.injEq, Prod.mk.injEq] at hc
    obtain ⟨rfl, rfl⟩ := hc
    exact hr
  | x :: xs, vs, ivs, fz, fz', hc, hf, ⟨u, us, h1, h2, h3⟩ => by
    simp only [toIVs1] at hc
    split at hc
    · next y f ys fs e1 e2 =>
      simp only [Option.some.injEq, Prod.mk.injEq] at hc
      obtain ⟨rfl, rfl⟩ := hc
      subst h1
      exact ⟨u, us, rfl, toIV1_sound h e1 (fun i hi => hf i (List.mem_append_left _ hi)) h2, toIVs1_sound h e2 (fun i hi => hf i (List.mem_append_right _ hi)) h3⟩
    · simp at hc

theorem toIV_sound (h : SimG w0 S0 M σ a w S μ β) {x : SV} {v : Value} {iv : IV} {fz fz' : List Nat} (hc : toIV σ.objs x = some (iv, fz)) (hf : ∀ i, i ∈ fz → i ∈ fz')
    (hr : SVRel w S μ σ.objs x v) : Rep w (Plus S β σ.objs fz') iv v := by
  unfold toIV at hc
  split at hc
  · next t x =>
    split at hc
    · next y f hy =>
      simp only [Option.some.injEq, Prod.mk.injEq] at hc
      obtain ⟨rfl, rfl⟩ := hc
      obtain ⟨u, rfl, h2⟩ := hr
      exact ⟨u, rfl, toIV1_sound h hy hf h2⟩
    · simp at hc
  · next cells =>
    split at hc
    · next vs fs hv =>
      simp only [Option.some.injEq, Prod.mk.injEq] at hc
      obtain ⟨rfl, rfl⟩ := hc
      obtain ⟨us, rfl, h2⟩ := hr
      exact ⟨us, rfl, toIVs1_soundOnes h hv hf h2⟩
    · simp at hc
  · next f caps =>
    split at hc
    · next vs fs hv =>
      simp only [Option.some.injEq, Prod.mk.injEq] at hc
      obtain ⟨rfl, rfl⟩ := hc
      obtain ⟨us, rfl, h2⟩ := hr
      exact ⟨us, rfl, toIVs1_sound h hv hf h2⟩
    · simp at hc
  · exact toIV1_sound h hc hf hr
theorem toIVs_sound (h : SimG w0 S0 M σ a w S μ β) : ∀ {xs : List SV} {vs : List Value} {ivs : List IV} {fz fz' : List Nat}, toIVs σ.objs xs = some (ivs, fz) → (∀ i, i ∈ fz → i ∈ fz') →
    SVList w S μ σ.objs xs vs → RepList w (Plus S β σ.objs fz') ivs vs
  | [], vs, ivs, fz, fz', hc, hf, hr => by
    simp only [toIVs, Option.some.injEq, Prod.mk.injEq] at hc
    obtain ⟨rfl, rfl⟩ := hc
    exact hr
  | x :: xs, vs, ivs, fz, fz', hc, hf, ⟨u, us, h1, h2, h3⟩ => by
    simp only [toIVs] at hc
    split at hc
    · next y f ys fs e1 e2 =>
      simp only [Option.some.injEq, Prod.mk.injEq] at hc
      obtain ⟨rfl, rfl⟩ := hc
      subst h1
      exact ⟨u, us, rfl, toIV_sound h e1 (fun i hi => hf i (List.mem_append_left _ hi)) h2, toIVs_sound h e2 (fun i hi => hf i (List.mem_append_right _ hi)) h3⟩
    · simp at hc

theorem rowsOf_sound (h : SimG w0 S0 M σ a w S μ β) {x : SV} {v : Value} {rows : List (List IV)} {fz : List Nat} (hc : rowsOf σ.objs x = some (rows, fz))
    (hr : SVRel w S μ σ.objs x v) : Rep w (Plus S β σ.objs fz) (.slice rows) v := by
  unfold rowsOf at hc
  split at hc
  · simp only [Option.some.injEq, Prod.mk.injEq] at hc
    obtain ⟨rfl, rfl⟩ := hc
    exact toIV0_sound (x := .nils) h (iv := .slice []) rfl (fun _ x => x) hr
  · next r =>
    simp only [Option.some.injEq, Prod.mk.injEq] at hc
    obtain ⟨rfl, rfl⟩ := hc
    exact toIV0_sound (x := .full r) h (iv := .slice r) rfl (fun _ x => x) hr
  · simp only [Option.some.injEq, Prod.mk.injEq] at hc
    obtain ⟨rfl, rfl⟩ := hc
    exact toIV0_sound (x := .nilT) h (iv := .slice []) rfl (fun _ x => x) hr
  · next id ver =>
    split at hc
    · next cv s rows' ln hl =>
      split at hc
      · next hv =>
        simp only [Option.some.injEq, Prod.mk.injEq] at hc
        obtain ⟨rfl, rfl⟩ := hc
        have hver : ver = cv := by simpa using hv
        obtain rfl := (hr _ _ _ _ hl).2 hver
        exact tab_rep h hl (by simp)
      · simp at hc
    · simp at hc
  · next r =>
    simp only [Option.some.injEq, Prod.mk.injEq] at hc
    obtain ⟨rfl, rfl⟩ := hc
    exact toIV0_sound (x := .val (.slice r)) h (iv := .slice r) rfl (fun _ x => x) hr
  · next id ver =>
    split at hc
    · next cv s rows' hl =>
      split at hc
      · next hv =>
        simp only [Option.some.injEq, Prod.mk.injEq] at hc
        obtain ⟨rfl, rfl⟩ := hc
        have hver : ver = cv := by simpa using hv
        obtain rfl := (hr _ _ _ hl).2 hver
        exact arr_rep h hl (by simp)
      · simp at hc
    · simp at hc
  · next id ver lo hi =>
    split at hc
    · next cv s rows' hl =>
      split at hc
      · next hv =>
        simp only [Option.some.injEq, Prod.mk.injEq] at hc
        obtain ⟨rfl, rfl⟩ := hc
        obtain rfl : ver = cv := by simpa using hv
        exact view_rep h hl (by simp) hr
      · simp at hc
    · simp at hc
  · simp at hc

end
end Go.Vs
set_option linter.unusedVariables false
set_option linter.unusedSimpArgs false
namespace Go.Vs

/-- The operation gives a value (or none), and G holds of it and of the world behind it. -/
def Does (P : Program) (o : Oper) (a : Act) (w : World) (G : Value → World → Prop) : Prop :=
  ∃ n v w', (execOp a.eval o).run P w = .ok n w' ∧ (n = .value v ∨ n = .skip ∧ v = Go.undef) ∧ G v w'

section
variable {P : Program} {w0 w : World} {S0 S : Stab} {M : Ctx} {σ : St} {a : Act} {μ : Nat → Value} {β : Nat → Option Nat} {o : Oper}

theorem Plus.nil {objs : List (Nat × Ob)} : ∀ b off, S b off → Plus S β objs [] b off := fun _ _ x => .inl x

theorem SimG.putD (h : SimG w0 S0 M σ a w S μ β) {dst : Option Nat} {sv : SV} {v : Value} (hd : ∀ d, dst = some d → d < σ.n) (hv : SVRel w S μ σ.objs sv v) :
    SimG w0 S0 M { σ with env := Vs.putD σ.env dst sv } (a.put dst v) w S μ β := by
  cases dst with
  | none => exact h
  | some d => exact h.put (hd d rfl) hv

theorem does_pure (h : SimG w0 S0 M σ a w S μ β) (hd : ∀ d, o.dst = some d → d < σ.n) {sv : SV} {v : Value} {fz : List Nat} {side : Prop} [Decidable side]
    (hrun : (execOp a.eval o).run P w = .ok (.value v) w) (hv : SVRel w (Plus S β σ.objs fz) μ σ.objs sv v) :
    Does P o a w (fun v w' => Sim w0 S0 M (σ.apply o.dst { v := sv, side := side, fz := fz }) (a.put o.dst v) w') := by
  refine ⟨_, v, w, hrun, .inl rfl, Plus S β σ.objs fz, μ, β, ?_⟩
  exact (h.freeze fz).putD (σ := { σ with ro := fz ++ σ.ro }) hd hv

theorem does_pure0 (h : SimG w0 S0 M σ a w S μ β) (hd : ∀ d, o.dst = some d → d < σ.n) {sv : SV} {v : Value} {side : Prop} [Decidable side]
    (hrun : (execOp a.eval o).run P w = .ok (.value v) w) (hv : SVRel w S μ σ.objs sv v) :
    Does P o a w (fun v w' => Sim w0 S0 M (σ.apply o.dst { v := sv, side := side }) (a.put o.dst v) w') :=
  does_pure (fz := []) h hd hrun (SVRel.mono (Keeps.refl _ _) Plus.nil _ _ hv)

theorem ba_toList (l : List UInt8) : (⟨l.toArray⟩ : ByteArray).toList = l := by rw [ByteArray.toList_eq]
theorem ba_size (l : List UInt8) : (⟨l.toArray⟩ : ByteArray).size = l.length := by simp [ByteArray.size]
theorem ba_append (l k : List UInt8) : (⟨l.toArray⟩ : ByteArray) ++ ⟨k.toArray⟩ = ⟨(l ++ k).toArray⟩ := by
  apply ByteArray.ext
  simp [ByteArray.data_append]
theorem ba_extract (l : List UInt8) (i j : Nat) : (⟨l.toArray⟩ : ByteArray).extract i j = ⟨((l.take j).drop i).toArray⟩ := by
  apply ByteArray.ext
  simp [ByteArray.data_extract, List.extract_eq_take_drop, List.drop_take]
theorem ba_get (l : List UInt8) (i : Nat) : (⟨l.toArray⟩ : ByteArray)[i]? = l[i]? := by
  by_cases h : i < l.length
  · have h' : i < (⟨l.toArray⟩ : ByteArray).size := by rw [ba_size]; exact h
    rw [getElem?_pos (c := (⟨l.toArray⟩ : ByteArray)) (i := i) h', getElem?_pos (c := l) (i := i) h]
    rfl
  · have h' : ¬ i < (⟨l.toArray⟩ : ByteArray).size := by rw [ba_size]; exact h
    rw [getElem?_neg (c := (⟨l.toArray⟩ : ByteArray)) (i := i) h', getElem?_neg (c := l) (i := i) h]

theorem snd_move (h : SimG w0 S0 M σ a w S μ β) (hd : ∀ d, o.dst = some d → d < σ.n) {x : Operand} {y : Opd} (ho : o.op = .move x ∨ o.op = .assign x) (hc : compOpd x = some y) :
    Does P o a w (fun v w' => Sim w0 S0 M (σ.apply o.dst { v := val σ y }) (a.put o.dst v) w') := by
  refine does_pure0 h hd (v := a.eval x) ?_ (opd_sound h hc)
  rcases ho with ho | ho <;> simp [execOp, ho]

theorem snd_pick (h : SimG w0 S0 M σ a w S μ β) (hd : ∀ d, o.dst = some d → d < σ.n) {c x y : Operand} {c' x' y' : Opd} (ho : o.op = .pick c x y)
    (hc : compOpd c = some c') (hx : compOpd x = some x') (hy : compOpd y = some y') {t : Bool} (hv : val σ c' = .val (.bool t)) :
    Does P o a w (fun v w' => Sim w0 S0 M (σ.apply o.dst { v := bif t then val σ x' else val σ y' }) (a.put o.dst v) w') := by
  have h1 : a.eval c = .bool t := by have := opd_sound h hc; rw [hv] at this; exact this
  refine does_pure0 h hd (v := if t then a.eval x else a.eval y) (by simp [execOp, ho, h1, asBool]) ?_
  cases t
  · exact opd_sound h hy
  · exact opd_sound h hx

theorem eqGuard_val {op : BinOp} {t : TypeId} {x y : Operand} {u v : Value} (h1 : ∀ cs, u ≠ .agg cs) (h2 : u ≠ .nilIface) : (eqGuard op t x y u v).run P w = .ok () w := by
  unfold eqGuard
  cases op <;> (try rfl) <;> cases u <;> first | (exact absurd rfl (h1 _)) | (exact absurd rfl h2) | rfl

theorem snd_binI (h : SimG w0 S0 M σ a w S μ β) (hd : ∀ d, o.dst = some d → d < σ.n) {op : BinOp} {t t' : TypeId} {x y : Operand} {x' y' : Opd} (ho : o.op = .binOp op t x y t')
    (hx : compOpd x = some x') (hy : compOpd y = some y') {k : IntKind} {m n : Int} (hv : val σ x' = .val (.int k m)) (hw : val σ y' = .val (.int k n)) {u : Upd} (hu : binI op k m n = some u) (hs : u.side) :
    Does P o a w (fun v w' => Sim w0 S0 M (σ.apply o.dst u) (a.put o.dst v) w') := by
  have h1 : a.eval x = .int k m := by have := opd_sound h hx; rw [hv] at this; exact this
  have h2 : a.eval y = .int k n := by have := opd_sound h hy; rw [hw] at this; exact this
  have hg : (eqGuard op t x y (.int k m) (.int k n)).run P w = .ok () w := eqGuard_val (by simp) (by simp)
  cases op <;> simp only [binI, Option.some.injEq, reduceCtorEq] at hu <;> subst hu
  case quo =>
    refine does_pure0 h hd ?_ rfl
    have hs : n ≠ 0 := hs
    simp only [execOp, ho, h1, h2, Sem.run_bind, hg, Result.andThen_ok]
    simp [binOp, Op.intDiv, hs]
  case rem =>
    refine does_pure0 h hd ?_ rfl
    have hs : n ≠ 0 := hs
    simp only [execOp, ho, h1, h2, Sem.run_bind, hg, Result.andThen_ok]
    simp [binOp, Op.intDiv, hs]
  case shl =>
    refine does_pure0 h hd ?_ rfl
    have hs : 0 ≤ n := hs
    simp only [execOp, ho, h1, h2, Sem.run_bind, hg, Result.andThen_ok]
    simp only [binOp, Op.shift]
    rw [if_neg (by omega)]
    simp
  case shr =>
    refine does_pure0 h hd ?_ rfl
    have hs : 0 ≤ n := hs
    simp only [execOp, ho, h1, h2, Sem.run_bind, hg, Result.andThen_ok]
    simp only [binOp, Op.shift]
    rw [if_neg (by omega)]
    simp
  all_goals
    refine does_pure0 h hd ?_ rfl
    simp only [execOp, ho, h1, h2, Sem.run_bind, hg, Result.andThen_ok]
    first
      | (simp [binOp, Op.intArith, Op.intCmp]; done)
      | (simp [binOp, Op.intArith, Op.intCmp]; rfl)

theorem snd_binS (h : SimG w0 S0 M σ a w S μ β) (hd : ∀ d, o.dst = some d → d < σ.n) {op : BinOp} {t t' : TypeId} {x y : Operand} {x' y' : Opd} (ho : o.op = .binOp op t x y t')
    (hx : compOpd x = some x') (hy : compOpd y = some y') {m n : List UInt8} (hv : val σ x' = .val (.str m)) (hw : val σ y' = .val (.str n)) {u : Upd} (hu : binS op m n = some u) (hs : u.side) :
    Does P o a w (fun v w' => Sim w0 S0 M (σ.apply o.dst u) (a.put o.dst v) w') := by
  have h1 : a.eval x = .string ⟨m.toArray⟩ := by have := opd_sound h hx; rw [hv] at this; exact this
  have h2 : a.eval y = .string ⟨n.toArray⟩ := by have := opd_sound h hy; rw [hw] at this; exact this
  have hg : (eqGuard op t x y (.string ⟨m.toArray⟩) (.string ⟨n.toArray⟩)).run P w = .ok () w := eqGuard_val (by simp) (by simp)
  have hb : (m == n) = decide (m = n) := by by_cases e : m = n <;> simp [e]
  cases op <;> simp only [binS, Option.some.injEq, reduceCtorEq] at hu <;> subst hu
  case add =>
    have hs : m.length + n.length ≤ 9223372036854775807 := hs
    refine does_pure0 h hd (v := .string ⟨(m ++ n).toArray⟩) ?_ rfl
    simp only [execOp, ho, h1, h2, Sem.run_bind, hg, Result.andThen_ok]
    simp only [binOp, Op.stringOp, ba_size, ba_append]
    rw [if_neg]
    · simp
    · have : IntKind.i64.max = 9223372036854775807 := by decide
      omega
  all_goals
    refine does_pure0 h hd ?_ rfl
    simp only [execOp, ho, h1, h2, Sem.run_bind, hg, Result.andThen_ok]
    simp [binOp, Op.stringOp, ba_toList, hb]

theorem run_eq {t : TypeId} {u v : Value} {b : Bool} (he : (Op.equalIn 10000 t u v).run P w = .ok b w) : ∀ op, op = .eql ∨ op = .neq →
    (binOp .eql t u v = do pure (.bool (← Op.equal t u v))) → (binOp .neq t u v = do pure (.bool (!(← Op.equal t u v)))) →
    (binOp op t u v).run P w = .ok (.bool ((op == .neq) ^^ b)) w := by
  intro op hop h1 h2
  rcases hop with rfl | rfl
  · rw [h1]; simp only [Sem.run_bind, Op.equal, Op.maxDepth, he, Result.andThen_ok, Sem.run_pure]; cases b <;> rfl
  · rw [h2]; simp only [Sem.run_bind, Op.equal, Op.maxDepth, he, Result.andThen_ok, Sem.run_pure]; cases b <;> rfl

theorem snd_eqG (h : SimG w0 S0 M σ a w S μ β) (hd : ∀ d, o.dst = some d → d < σ.n) {op : BinOp} {t t' : TypeId} {x y : Operand} (ho : o.op = .binOp op t x y t') (hop : op = .eql ∨ op = .neq)
    {u v : Value} (hu : a.eval x = u) (hv : a.eval y = v) (hg : (eqGuard op t x y u v).run P w = .ok () w) {b : Bool} (he : (Op.equalIn 10000 t u v).run P w = .ok b w)
    (h1 : binOp .eql t u v = do pure (.bool (← Op.equal t u v))) (h2 : binOp .neq t u v = do pure (.bool (!(← Op.equal t u v)))) :
    Does P o a w (fun v w' => Sim w0 S0 M (σ.apply o.dst { v := .val (.bool ((op == .neq) ^^ b)) }) (a.put o.dst v) w') := by
  refine does_pure0 h hd (v := .bool ((op == .neq) ^^ b)) ?_ rfl
  simp only [execOp, ho, hu, hv, Sem.run_bind, hg, Result.andThen_ok, run_eq he op hop h1 h2, Sem.run_pure]

theorem snd_eqB (h : SimG w0 S0 M σ a w S μ β) (hd : ∀ d, o.dst = some d → d < σ.n) {op : BinOp} {t t' : TypeId} {x y : Operand} {x' y' : Opd} (ho : o.op = .binOp op t x y t') (hop : op = .eql ∨ op = .neq)
    (ht : P.underlying t = some .bool) (hx : compOpd x = some x') (hy : compOpd y = some y') {m n : Bool} (hv : val σ x' = .val (.bool m)) (hw : val σ y' = .val (.bool n)) :
    Does P o a w (fun v w' => Sim w0 S0 M (σ.apply o.dst { v := .val (.bool ((op == .neq) ^^ (m == n))) }) (a.put o.dst v) w') := by
  have h1 : a.eval x = .bool m := by have := opd_sound h hx; rw [hv] at this; exact this
  have h2 : a.eval y = .bool n := by have := opd_sound h hy; rw [hw] at this; exact this
  exact snd_eqG h hd ho hop h1 h2 (eqGuard_val (by simp) (by simp)) (run_equalIn_bool' w 9999 t m n ht) rfl rfl

theorem snd_un (h : SimG w0 S0 M σ a w S μ β) (hd : ∀ d, o.dst = some d → d < σ.n) {t : TypeId} {x : Operand} {x' : Opd} (hx : compOpd x = some x') :
    (∀ {k n}, o.op = .unOp .neg t x → val σ x' = .val (.int k n) → Does P o a w (fun v w' => Sim w0 S0 M (σ.apply o.dst { v := .val (.int k (k.wrap (0 - n))) }) (a.put o.dst v) w')) ∧
    (∀ {b}, o.op = .unOp .not t x → val σ x' = .val (.bool b) → Does P o a w (fun v w' => Sim w0 S0 M (σ.apply o.dst { v := .val (.bool (!b)) }) (a.put o.dst v) w')) := by
  refine ⟨fun {k n} ho hv => ?_, fun {b} ho hv => ?_⟩
  · have h1 : a.eval x = .int k n := by have := opd_sound h hx; rw [hv] at this; exact this
    exact does_pure0 h hd (v := .int k (k.wrap (0 - n))) (by simp only [execOp, ho, h1, Op.unary, Op.intArith]; rfl) rfl
  · have h1 : a.eval x = .bool b := by have := opd_sound h hx; rw [hv] at this; exact this
    exact does_pure0 h hd (v := .bool (!b)) (by simp only [execOp, ho, h1, Op.unary]; rfl) rfl

theorem snd_conv (h : SimG w0 S0 M σ a w S μ β) (hd : ∀ d, o.dst = some d → d < σ.n) {s t : TypeId} {x : Operand} {x' : Opd} (ho : o.op = .convert s t x) (hx : compOpd x = some x') :
    (∀ {sk k k' n}, P.underlying s = some (.int sk) → P.underlying t = some (.int k) → val σ x' = .val (.int k' n) → Does P o a w (fun v w' => Sim w0 S0 M (σ.apply o.dst { v := .val (.int k (k.wrap n)) }) (a.put o.dst v) w')) ∧
    (∀ {b}, P.underlying s = some .string → P.underlying t = some .string → val σ x' = .val (.str b) → Does P o a w (fun v w' => Sim w0 S0 M (σ.apply o.dst { v := .val (.str b) }) (a.put o.dst v) w')) := by
  refine ⟨fun {sk k k' n} hs ht hv => ?_, fun {b} hs ht hv => ?_⟩
  · have h1 : a.eval x = .int k' n := by have := opd_sound h hx; rw [hv] at this; exact this
    exact does_pure0 h hd (v := .int k (k.wrap n)) (by simp [execOp, ho, h1, convert, run_underlying hs, run_underlying ht, Conv.intToInt]) rfl
  · have h1 : a.eval x = .string ⟨b.toArray⟩ := by have := opd_sound h hx; rw [hv] at this; exact this
    exact does_pure0 h hd (v := .string ⟨b.toArray⟩) (by simp [execOp, ho, h1, convert, run_underlying hs, run_underlying ht]) rfl

theorem run_nilI1 (d : Nat) {t : TypeId} {ms : Array (String × TypeId)} (ht : P.underlying t = some (.interface ms)) (ty : TypeId) (u : Value) : (Op.equalIn (d + 1) t (.iface ty u) .nilIface).run P w = .ok false w := by
  simp [Op.equalIn, run_underlying ht]
theorem run_nilI2 (d : Nat) {t : TypeId} {ms : Array (String × TypeId)} (ht : P.underlying t = some (.interface ms)) : (Op.equalIn (d + 1) t .nilIface .nilIface).run P w = .ok true w := by
  simp [Op.equalIn, run_underlying ht]
theorem run_nilP1 (d : Nat) {t e : TypeId} (ht : P.underlying t = some (.pointer e)) (p : Addr) : (Op.equalIn (d + 1) t (.pointer (some p)) (.pointer none)).run P w = .ok false w := by
  simp [Op.equalIn, run_underlying ht]
theorem run_nilP2 (d : Nat) {t e : TypeId} (ht : P.underlying t = some (.pointer e)) : (Op.equalIn (d + 1) t (.pointer none) (.pointer none)).run P w = .ok true w := by
  simp [Op.equalIn, run_underlying ht]

theorem snd_eqNi (h : SimG w0 S0 M σ a w S μ β) (hd : ∀ d, o.dst = some d → d < σ.n) {op : BinOp} {t t' : TypeId} {x : Operand} (ho : o.op = .binOp op t x (.const .nilIface) t') (hop : op = .eql ∨ op = .neq)
    {ms : Array (String × TypeId)} (ht : P.underlying t = some (.interface ms)) {b : Bool} (hv : (∃ ty u, a.eval x = .iface ty u ∧ b = false) ∨ (a.eval x = .nilIface ∧ b = true)) :
    Does P o a w (fun v w' => Sim w0 S0 M (σ.apply o.dst { v := .val (.bool ((op == .neq) ^^ b)) }) (a.put o.dst v) w') := by
  rcases hv with ⟨ty, u, h1, rfl⟩ | ⟨h1, rfl⟩
  · refine snd_eqG h hd ho hop h1 rfl (eqGuard_val (by simp) (by simp)) ?_ rfl rfl
    exact run_nilI1 9999 ht ty u
  · refine snd_eqG h hd ho hop h1 rfl ?_ ?_ rfl rfl
    · rcases hop with rfl | rfl <;> simp [eqGuard, Act.eval]
    · exact run_nilI2 9999 ht

theorem snd_eqNp (h : SimG w0 S0 M σ a w S μ β) (hd : ∀ d, o.dst = some d → d < σ.n) {op : BinOp} {t t' : TypeId} {x : Operand} (ho : o.op = .binOp op t x (.const (.pointer none)) t') (hop : op = .eql ∨ op = .neq)
    {e : TypeId} (ht : P.underlying t = some (.pointer e)) {b : Bool} (hv : (∃ p, a.eval x = .pointer (some p) ∧ b = false) ∨ (a.eval x = .pointer none ∧ b = true)) :
    Does P o a w (fun v w' => Sim w0 S0 M (σ.apply o.dst { v := .val (.bool ((op == .neq) ^^ b)) }) (a.put o.dst v) w') := by
  rcases hv with ⟨p, h1, rfl⟩ | ⟨h1, rfl⟩
  · refine snd_eqG h hd ho hop h1 rfl (eqGuard_val (by simp) (by simp)) ?_ rfl rfl
    exact run_nilP1 9999 ht p
  · refine snd_eqG h hd ho hop h1 rfl (eqGuard_val (by simp) (by simp)) ?_ rfl rfl
    exact run_nilP2 9999 ht

theorem run_nilS (d : Nat) {t e : TypeId} (ht : P.underlying t = some (.slice e)) (p : Option Addr) (n c : Nat) : (Op.equalIn (d + 1) t (.slice p n c) (.slice none 0 0)).run P w = .ok p.isNone w := by
  cases p <;> simp [Op.equalIn, run_underlying ht]
theorem snd_eqNs (h : SimG w0 S0 M σ a w S μ β) (hd : ∀ d, o.dst = some d → d < σ.n) {op : BinOp} {t t' : TypeId} {x : Operand} (ho : o.op = .binOp op t x (.const (.slice none 0 0)) t') (hop : op = .eql ∨ op = .neq)
    {e : TypeId} (ht : P.underlying t = some (.slice e)) {p : Option Addr} {n c : Nat} (hv : a.eval x = .slice p n c) :
    Does P o a w (fun v w' => Sim w0 S0 M (σ.apply o.dst { v := .val (.bool ((op == .neq) ^^ p.isNone)) }) (a.put o.dst v) w') ∧
    Does P o a w (fun v w' => Sim w0 S0 M (σ.apply o.dst { v := .anyB }) (a.put o.dst v) w') := by
  have hg : (eqGuard op t x (.const (.slice none 0 0)) (.slice p n c) (.slice none 0 0)).run P w = .ok () w := eqGuard_val (by simp) (by simp)
  refine ⟨snd_eqG h hd ho hop hv rfl hg (run_nilS 9999 ht p n c) rfl rfl, does_pure0 h hd (v := .bool ((op == .neq) ^^ p.isNone)) ?_ ⟨_, rfl⟩⟩
  have e2 : a.eval (.const (.slice none 0 0)) = .slice none 0 0 := rfl
  simp only [execOp, ho, hv, e2, Sem.run_bind, hg, Result.andThen_ok, run_eq (run_nilS 9999 ht p n c) op hop rfl rfl, Sem.run_pure]

/- A struct that is compared cell by cell. -/
theorem aggOf_some {t : TypeId} {n : Nat} (h : aggOf P t = some (some n)) : ∃ d i, P.underlying t = some d ∧ P.info? t = some i ∧ i.size = n ∧ isAggD d = true := by
  unfold aggOf at h
  split at h
  · next fs i h1 h2 => exact ⟨_, i, h1, h2, by simpa using h, rfl⟩
  · next m e i h1 h2 => exact ⟨_, i, h1, h2, by simpa using h, rfl⟩
  · next d i h1 h2 _ _ => split at h <;> simp at h
  · simp at h
theorem aggOf_none {t : TypeId} (h : aggOf P t = some none) : ∃ d i, P.underlying t = some d ∧ P.info? t = some i ∧ i.size = 1 ∧ isAggD d = false := by
  unfold aggOf at h
  split at h
  · simp at h
  · simp at h
  · next d i h3 h4 h1 h2 =>
    split at h
    · next h5 =>
      refine ⟨d, i, h1, h2, h5, ?_⟩
      cases d <;> first | rfl | (exact absurd rfl (h3 _)) | (exact absurd rfl (h4 _ _))
    · simp at h
  · simp at h
theorem run_isAgg {t : TypeId} {d : TypeDesc} (h : P.underlying t = some d) (w : World) : (isAgg t).run P w = .ok (isAggD d) w := by
  unfold isAgg
  rw [Sem.run_bind, run_underlying h]
  cases d <;> rfl
theorem run_sizeT {t : TypeId} {n : Nat} (h : sizeT P t = some n) (w : World) : (sizeOf t).run P w = .ok n w := by
  unfold sizeT at h
  cases hi : P.info? t with
  | none => rw [hi] at h; simp at h
  | some i => rw [hi] at h; simp at h; simp [sizeOf, typeInfo, hi, h]
theorem run_sizeI {t : TypeId} {i : TypeInfo} (h : P.info? t = some i) (w : World) : (sizeOf t).run P w = .ok i.size w := by
  simp [sizeOf, typeInfo, h]

end
end Go.Vs
set_option linter.unusedVariables false
set_option linter.unusedSimpArgs false
namespace Go.Vs

theorem eqL_append : ∀ {ks rs : List LK} {xs ys : List IV} {b : Bool}, eqL (ks ++ rs) xs ys = some b →
    ∃ b1 b2, eqL ks (xs.take ks.length) (ys.take ks.length) = some b1 ∧ eqL rs (xs.drop ks.length) (ys.drop ks.length) = some b2 ∧ b = (b1 && b2)
  | [], rs, xs, ys, b, h => ⟨true, b, by simp [eqL], by simpa using h, by simp⟩
  | k :: ks, rs, [], ys, b, h => by simp [eqL] at h
  | k :: ks, rs, x :: xs, [], b, h => by simp [eqL] at h
  | k :: ks, rs, x :: xs, y :: ys, b, h => by
    simp only [List.cons_append, eqL] at h
    split at h
    · next c d h1 h2 =>
      simp only [Option.some.injEq] at h
      subst h
      obtain ⟨b1, b2, h3, h4, rfl⟩ := eqL_append h2
      refine ⟨c && b1, b2, ?_, ?_, ?_⟩
      · simp only [List.length_cons, List.take_succ_cons, eqL, h1, h3]
      · simpa using h4
      · rw [Bool.and_assoc]
    · simp at h
theorem eqL_length : ∀ {ks : List LK} {xs ys : List IV} {b : Bool}, eqL ks xs ys = some b → xs.length = ks.length ∧ ys.length = ks.length
  | [], [], [], _, _ => ⟨rfl, rfl⟩
  | [], [], _ :: _, _, h => by simp [eqL] at h
  | [], _ :: _, _, _, h => by simp [eqL] at h
  | _ :: _, [], _, _, h => by simp [eqL] at h
  | _ :: _, _ :: _, [], _, h => by simp [eqL] at h
  | k :: ks, x :: xs, y :: ys, b, h => by
    simp only [eqL] at h
    split at h
    · next c d h1 h2 =>
      have := eqL_length h2
      simp [this]
    · simp at h

section
variable {P : Program} {w : World} {S : Stab}

theorem run_part_agg {t : TypeId} {n : Nat} {d : TypeDesc} (hu : P.underlying t = some d) (hd : isAggD d = true) (hs : sizeT P t = some n) (cs : Array Value) (off : Nat) :
    (part t cs off).run P w = .ok (.agg (cs.extract off (off + n))) w := by
  unfold part
  simp only [Sem.run_bind, run_isAgg hu, hd, Result.andThen_ok, if_true, run_sizeT hs, Sem.run_pure]
theorem run_part_one {t : TypeId} {d : TypeDesc} (hu : P.underlying t = some d) (hd : isAggD d = false) (cs : Array Value) (off : Nat) {v : Value} (hv : cs[off]? = some v) :
    (part t cs off).run P w = .ok v w := by
  unfold part
  simp only [Sem.run_bind, run_isAgg hu, hd, Result.andThen_ok, Bool.false_eq_true, if_false, hv, Sem.run_pure]

theorem RepOnes.extract {xs : List IV} {us : Array Value} (h : RepOnes w S xs us.toList) (off n : Nat) : RepOnes w S ((xs.drop off).take n) (us.extract off (off + n)).toList := by
  have := RepOnes.take n (RepOnes.drop off h)
  rw [Array.toList_extract, List.extract_eq_take_drop, Nat.add_sub_cancel_left]
  exact this

/-- Comparing the parts at an offset, in a type whose cells are compared one by one. -/
def PartEq (P : Program) (w : World) (S : Stab) (d : Nat) (t : TypeId) (ks : List LK) : Prop :=
  ∀ (e : Nat) (xs ys : List IV) (us vs : Array Value) (off : Nat) (b : Bool), RepOnes w S xs us.toList → RepOnes w S ys vs.toList →
    eqL ks ((xs.drop off).take ks.length) ((ys.drop off).take ks.length) = some b →
    ∃ u v, (part t us off).run P w = .ok u w ∧ (part t vs off).run P w = .ok v w ∧ (Op.equalIn (d + e) t u v).run P w = .ok b w

theorem eqFields_run {d : Nat} (hd : ∀ t ks, leaves P d t = some ks → PartEq P w S d t ks) : ∀ (fs : List Field) (off : Nat) (ks : List LK), leavesFields (leaves P d) off fs = some ks →
    ∀ (e : Nat) (xs ys : List IV) (us vs : Array Value) (b : Bool), RepOnes w S xs us.toList → RepOnes w S ys vs.toList → eqL ks (xs.drop off) (ys.drop off) = some b →
    (Op.eqFields (d + e) us vs fs).run P w = .ok b w
  | [], off, ks, hk, e, xs, ys, us, vs, b, _, _, hb => by
    simp only [leavesFields, Option.some.injEq] at hk
    subst hk
    have : b = true := by
      unfold eqL at hb
      split at hb <;> simp_all
    subst this
    simp [Op.eqFields]
  | f :: fs, off, ks, hk, e, xs, ys, us, vs, b, hx, hy, hb => by
    simp only [leavesFields] at hk
    split at hk
    · simp at hk
    · next hn =>
      split at hk
      · simp at hk
      · next ho =>
        have ho : f.offset = off := by simpa using ho
        split at hk
        · next k1 h1 =>
          split at hk
          · next k2 h2 =>
            simp only [Option.some.injEq] at hk
            subst hk
            obtain ⟨b1, b2, e1, e2, rfl⟩ := eqL_append hb
            obtain ⟨u, v, r1, r2, r3⟩ := hd _ _ h1 e xs ys us vs off b1 hx hy e1
            have ih := eqFields_run hd fs (off + k1.length) k2 h2 e xs ys us vs b2 hx hy (by simpa [List.drop_drop] using e2)
            simp only [Op.eqFields, ne_eq, hn, not_false_eq_true, if_true, Sem.run_bind, ho, r1, r2, Result.andThen_ok, r3, Sem.run_ite]
            cases b1
            · simp
            · simpa using ih
          · simp at hk
        · simp at hk

theorem list_beq (p q : List UInt8) : (p == q) = decide (p = q) := by by_cases h : p = q <;> simp [h]
theorem leaf_part {d : TypeDesc} {t : TypeId} {k : LK} (hu : P.underlying t = some d) (hd : isAggD d = false) {xs ys : List IV} {us vs : Array Value} {off : Nat} {b : Bool}
    (hx : RepOnes w S xs us.toList) (hy : RepOnes w S ys vs.toList) (hb : eqL [k] ((xs.drop off).take 1) ((ys.drop off).take 1) = some b) :
    ∃ x y u v, eqC k x y = some b ∧ Rep w S x u ∧ Rep w S y v ∧ (part t us off).run P w = .ok u w ∧ (part t vs off).run P w = .ok v w := by
  have hl := eqL_length hb
  cases hxs : xs.drop off with
  | nil => rw [hxs] at hl; simp at hl
  | cons x xr =>
    cases hys : ys.drop off with
    | nil => rw [hys] at hl; simp at hl
    | cons y yr =>
      have h1 : xs[off]? = some x := by have := congrArg (·[0]?) hxs; simpa using this
      have h2 : ys[off]? = some y := by have := congrArg (·[0]?) hys; simpa using this
      obtain ⟨u, hu1, _, hu2⟩ := RepOnes.get hx h1
      obtain ⟨v, hv1, _, hv2⟩ := RepOnes.get hy h2
      refine ⟨x, y, u, v, ?_, hu2, hv2, run_part_one hu hd us off (by simpa using hu1), run_part_one hu hd vs off (by simpa using hv1)⟩
      rw [hxs, hys] at hb
      simp only [List.take_succ_cons, List.take_zero, eqL] at hb
      split at hb
      · next c d h3 h4 =>
        simp only [Option.some.injEq] at h4 hb
        subst h4; subst hb
        simpa using h3
      · simp at hb

theorem leaves_sound : ∀ (d : Nat) (t : TypeId) (ks : List LK), leaves P d t = some ks → PartEq P w S d t ks
  | 0, t, ks, h => by simp [leaves] at h
  | d + 1, t, ks, h => by
    intro e xs ys us vs off b hx hy hb
    simp only [leaves] at h
    split at h
    · next hu =>
      split at h
      · simp only [Option.some.injEq] at h
        subst h
        obtain ⟨x, y, u, v, h1, h2, h3, h4, h5⟩ := leaf_part hu rfl hx hy hb
        refine ⟨u, v, h4, h5, ?_⟩
        unfold eqC at h1
        split at h1 <;> (try (simp at h1; done)) <;> (try (rename_i hk; simp at hk; done))
        simp only [Option.some.injEq] at h1
        subst h1
        obtain rfl : u = _ := h2
        obtain rfl : v = _ := h3
        rw [show d + 1 + e = (d + e) + 1 by omega, run_equalIn_bool' w _ t _ _ hu]
        congr 1
      · simp at h
    · next k0 hu =>
      split at h
      · simp only [Option.some.injEq] at h
        subst h
        obtain ⟨x, y, u, v, h1, h2, h3, h4, h5⟩ := leaf_part hu rfl hx hy hb
        refine ⟨u, v, h4, h5, ?_⟩
        unfold eqC at h1
        split at h1 <;> (try (simp at h1; done)) <;> (try (rename_i hk; simp at hk; done))
        split at h1
        · next hkk =>
          subst hkk
          simp only [Option.some.injEq] at h1
          subst h1
          obtain rfl : u = _ := h2
          obtain rfl : v = _ := h3
          rw [show d + 1 + e = (d + e) + 1 by omega, run_equalIn_int w _ t _ k0 _ _ hu]
          congr 1
        · simp at h1
      · simp at h
    · next hu =>
      split at h
      · simp only [Option.some.injEq] at h
        subst h
        obtain ⟨x, y, u, v, h1, h2, h3, h4, h5⟩ := leaf_part hu rfl hx hy hb
        refine ⟨u, v, h4, h5, ?_⟩
        unfold eqC at h1
        split at h1 <;> (try (simp at h1; done)) <;> (try (rename_i hk; simp at hk; done))
        simp only [Option.some.injEq] at h1
        subst h1
        obtain rfl : u = _ := h2
        obtain rfl : v = _ := h3
        rw [show d + 1 + e = (d + e) + 1 by omega, run_equalIn_string w _ t _ _ hu, ba_toList, ba_toList, list_beq]
      · simp at h
    · next fs hu =>
      split at h
      · simp at h
      · next hst =>
        split at h
        · next k1 hk =>
          split at h
          · next hsz =>
            simp only [Option.some.injEq] at h
            subst h
            refine ⟨_, _, run_part_agg hu rfl hsz us off, run_part_agg hu rfl hsz vs off, ?_⟩
            have hf : P.underlying t = some (.struct (P.fieldsOf t)) := by simp [Program.fieldsOf, hu]
            have hfs : P.fieldsOf t = fs := by simp [Program.fieldsOf, hu]
            rw [show d + 1 + e = (d + e) + 1 by omega, run_equalIn_struct w _ t _ _ hf (by simpa using hst), hfs]
            exact eqFields_run (leaves_sound d) fs.toList 0 k1 hk e _ _ _ _ b (hx.extract off _) (hy.extract off _) (by simpa using hb)
          · simp at h
        · simp at h
    · simp at h

end
end Go.Vs
