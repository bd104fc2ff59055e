/- Value semantics, part 1: abstract values, their reading in a world, abstract states, and what keeps a reading. No conditions. -/
import Derived.WalkKit
set_option linter.unusedVariables false
set_option linter.unusedSimpArgs false
namespace Go.Vs

/-- An immutable value: what is read of a Go value, all memory behind it included. -/
inductive IV where
  | int (k : IntKind) (n : Int)
  | bool (b : Bool)
  | str (s : List UInt8)
  | nilp
  | ref (cells : List IV)
  | slice (rows : List (List IV))
  | nilf
  | fn (f : Nat) (caps : List IV)
  | nili
  | iface (t : Nat) (v : IV)
  | agg (cells : List IV)
  | tuple (vs : List IV)
  deriving Inhabited, Repr

def IV.one : IV → Bool
  | .agg _ => false
  | .tuple _ => false
  | _ => true

abbrev Stab := Nat → Nat → Prop

mutual
def Rep (w : World) (S : Stab) : IV → Value → Prop
  | .int k n, v => v = .int k n
  | .bool b, v => v = .bool b
  | .str s, v => v = .string ⟨s.toArray⟩
  | .nilp, v => v = .pointer none
  | .ref cells, v => ∃ blk off, v = .pointer (some ⟨blk, off, none⟩) ∧ RepCells w S cells blk off
  | .slice rows, v => ∃ a cap, v = .slice a rows.length cap ∧ rows.length ≤ cap ∧
      (rows ≠ [] → ∃ blk off s, a = some ⟨blk, off, none⟩ ∧ RepRows w S rows s blk off)
  | .nilf, v => v = .nilFunc
  | .fn f caps, v => ∃ vs, v = .func (.func f) #[] vs ∧ RepList w S caps vs.toList
  | .nili, v => v = .nilIface
  | .iface t x, v => ∃ u, v = .iface t u ∧ Rep w S x u
  | .agg cells, v => ∃ vs, v = .agg vs ∧ RepOnes w S cells vs.toList
  | .tuple xs, v => ∃ vs, v = .tuple vs ∧ RepList w S xs vs.toList
def RepList (w : World) (S : Stab) : List IV → List Value → Prop
  | [], vs => vs = []
  | x :: xs, vs => ∃ v vs', vs = v :: vs' ∧ Rep w S x v ∧ RepList w S xs vs'
def RepOnes (w : World) (S : Stab) : List IV → List Value → Prop
  | [], vs => vs = []
  | x :: xs, vs => ∃ v vs', vs = v :: vs' ∧ x.one = true ∧ Rep w S x v ∧ RepOnes w S xs vs'
def RepCells (w : World) (S : Stab) : List IV → Nat → Nat → Prop
  | [], _, _ => True
  | x :: xs, blk, off => S blk off ∧ x.one = true ∧ (∃ v, w.cell? ⟨blk, off, none⟩ = some v ∧ Rep w S x v) ∧ RepCells w S xs blk (off + 1)
def RepRows (w : World) (S : Stab) : List (List IV) → Nat → Nat → Nat → Prop
  | [], _, _, _ => True
  | r :: rs, s, blk, off => r.length = s ∧ RepCells w S r blk off ∧ RepRows w S rs s blk (off + s)
end

/-- What stands in a slot: an immutable value, or something of the call's own. -/
inductive SV where
  | undef
  | val (v : IV)
  | nils
  | full (rows : List (List IV))
  | own (id ver : Nat)
  | loc (id off : Nat)
  | eloc (id ver i off : Nat)
  | view (id ver lo hi : Nat)
  | agg (cells : List SV)
  | clo (f : Nat) (caps : List SV)
  | ifc (t : Nat) (v : SV)
  | anyB
  deriving Inhabited, Repr

/-- An object of the call's own: a variable, or an array that it made. -/
inductive Ob where
  | box (cells : List SV)
  | arr (ver s : Nat) (rows : List (List IV))
  deriving Inhabited, Repr

def look {α : Type} : List (Nat × α) → Nat → Option α
  | [], _ => none
  | (j, v) :: r, k => bif j == k then some v else look r k

def del {α : Type} : List (Nat × α) → Nat → List (Nat × α)
  | [], _ => []
  | (j, v) :: r, k => bif j == k then r else (j, v) :: del r k

def put {α : Type} (l : List (Nat × α)) (k : Nat) (v : α) : List (Nat × α) := (k, v) :: l

structure St where
  env : List (Nat × SV)
  objs : List (Nat × Ob)
  ro : List Nat
  n : Nat
  gl : List (Nat × List IV)

def getE (env : List (Nat × SV)) (k : Nat) : SV := (look env k).getD .undef

def SV.one : SV → Bool
  | .undef => false
  | .val v => v.one
  | .agg _ => false
  | _ => true

mutual
def SVRel (w : World) (S : Stab) (μ : Nat → Value) (objs : List (Nat × Ob)) : SV → Value → Prop
  | .undef, _ => True
  | .val iv, v => Rep w S iv v
  | .nils, v => ∃ a, v = .slice a 0 0
  | .full rows, v => Rep w S (.slice rows) v ∧ ∃ a, v = .slice a rows.length rows.length
  | .own id ver, v => ∀ cv s rows, look objs id = some (.arr cv s rows) → ver ≤ cv ∧ (ver = cv → v = μ id)
  | .loc id off, v => ∀ cells, look objs id = some (.box cells) → ∃ b, μ id = .pointer (some ⟨b, 0, none⟩) ∧ v = .pointer (some ⟨b, off, none⟩)
  | .eloc id ver i off, v => ∀ cv s rows, look objs id = some (.arr cv s rows) → ver ≤ cv ∧
      (ver = cv → ∃ b cap, μ id = .slice (some ⟨b, 0, none⟩) rows.length cap ∧ v = .pointer (some ⟨b, i * s + off, none⟩))
  | .view id ver lo hi, v => ∀ cv s rows, look objs id = some (.arr cv s rows) → ver ≤ cv ∧
      (ver = cv → lo ≤ hi ∧ hi ≤ rows.length ∧ ∃ a cap a', μ id = .slice a rows.length cap ∧ v = .slice a' (hi - lo) (cap - lo) ∧ (lo = 0 → a' = a) ∧ (lo < rows.length → ∃ b, a = some ⟨b, 0, none⟩ ∧ a' = some ⟨b, lo * s, none⟩))
  | .agg cells, v => ∃ vs, v = .agg vs ∧ SVOnes w S μ objs cells vs.toList
  | .clo f caps, v => ∃ vs, v = .func (.func f) #[] vs ∧ SVList w S μ objs caps vs.toList
  | .ifc t x, v => ∃ u, v = .iface t u ∧ SVRel w S μ objs x u
  | .anyB, v => ∃ b, v = .bool b
def SVList (w : World) (S : Stab) (μ : Nat → Value) (objs : List (Nat × Ob)) : List SV → List Value → Prop
  | [], vs => vs = []
  | x :: xs, vs => ∃ v vs', vs = v :: vs' ∧ SVRel w S μ objs x v ∧ SVList w S μ objs xs vs'
def SVOnes (w : World) (S : Stab) (μ : Nat → Value) (objs : List (Nat × Ob)) : List SV → List Value → Prop
  | [], vs => vs = []
  | x :: xs, vs => ∃ v vs', vs = v :: vs' ∧ v.oneCell' = true ∧ SVRel w S μ objs x v ∧ SVOnes w S μ objs xs vs'
end

/-- No cell of the row may not be written. -/
def NoFrz (fr : Nat × Nat) (n : Nat) : Prop := ∀ o, o < n → ¬ (fr.1 ≤ o ∧ o < fr.2)
theorem NoFrz.zero (n : Nat) : NoFrz (0, 0) n := fun o _ => by omega

/-- An object, in its block. -/
def ObRel (w : World) (S : Stab) (μ : Nat → Value) (objs : List (Nat × Ob)) (blk : Option Nat) (mu : Value) : Ob → Prop
  | .box cells => ∃ b vs e fr, blk = some b ∧ mu = .pointer (some ⟨b, 0, none⟩) ∧ w.heap[b]? = some (.cells vs e fr) ∧ NoFrz fr vs.size ∧ SVOnes w S μ objs cells vs.toList
  | .arr _ s rows => (rows = [] ∧ blk = none ∧ ∃ a, mu = .slice a 0 0) ∨
      (∃ b cap vs e fr, blk = some b ∧ mu = .slice (some ⟨b, 0, none⟩) rows.length cap ∧ w.heap[b]? = some (.cells vs e fr) ∧ NoFrz fr vs.size ∧ vs.size = cap * s ∧ rows.length ≤ cap ∧
        (∀ r ∈ rows, r.length = s) ∧ RepOnes w S rows.flatten (vs.toList.take (rows.length * s)))

/-- Old memory, but for the blocks that may be written, is as it was. -/
structure Kept (M : Nat → Prop) (w w' : World) : Prop where
  os : w'.os = w.os
  tape : w'.tape = w.tape
  output : w'.output = w.output
  size : w.heap.size ≤ w'.heap.size
  block : ∀ k, k < w.heap.size → ¬ M k → w'.heap[k]? = w.heap[k]?

/- No handle on an object. -/
mutual
def SV.noRef (d : Nat) : SV → Bool
  | .undef => true
  | .val _ => true
  | .nils => true
  | .full _ => true
  | .own id _ => !(id == d)
  | .loc id _ => !(id == d)
  | .eloc id _ _ _ => !(id == d)
  | .view id _ _ _ => !(id == d)
  | .agg cells => SV.noRefs d cells
  | .clo _ caps => SV.noRefs d caps
  | .ifc _ v => SV.noRef d v
  | .anyB => true
def SV.noRefs (d : Nat) : List SV → Bool
  | [] => true
  | x :: xs => SV.noRef d x && SV.noRefs d xs
end
/-- What is asked of a call besides: which blocks may be written; which handles stay (none of a slot), with their values. -/
structure Ctx where
  blocks : Nat → Prop
  keep : List (Nat × SV)
  at' : Nat → Value

structure SimG (w0 : World) (S0 : Stab) (M : Ctx) (σ : St) (a : Act) (w : World) (S : Stab) (μ : Nat → Value) (β : Nat → Option Nat) : Prop where
  defers : a.defers = []
  size : a.tmps.size = σ.n
  env : ∀ k, SVRel w S μ σ.objs (getE σ.env k) (a.tmps.getD k Go.undef)
  objs : ∀ id o, look σ.objs id = some o → ObRel w S μ σ.objs (β id) (μ id) o
  inj : ∀ id id' o o' b, look σ.objs id = some o → look σ.objs id' = some o' → β id = some b → β id' = some b → id = id'
  own : ∀ id o b, look σ.objs id = some o → β id = some b → w0.heap.size ≤ b ∨ M.blocks b
  unst : ∀ id o b off, look σ.objs id = some o → β id = some b → S b off → id ∈ σ.ro ∧ ∀ ver s rows, o = .arr ver s rows → off < rows.length * s
  stab : ∀ b o, S b o → b < w.heap.size
  ext : ∀ b o, S0 b o → S b o
  back : ∀ b o, S b o → S0 b o ∨ w0.heap.size ≤ b ∨ M.blocks b
  kept : Kept M.blocks w0 w
  hist : ∀ p, p ∈ M.keep → SVRel w S μ σ.objs p.2 (M.at' p.1)
  far : ∀ p, p ∈ M.keep → ∀ d, d < σ.n → p.2.noRef d = true
  glob : ∀ p, p ∈ σ.gl → RepCells w S p.2 p.1 0

def Sim (w0 : World) (S0 : Stab) (M : Ctx) (σ : St) (a : Act) (w : World) : Prop :=
  ∃ S μ β, SimG w0 S0 M σ a w S μ β

/-- The stable cells read as they did. -/
def Keeps (S : Stab) (w w' : World) : Prop := ∀ b o, S b o → w'.cell? ⟨b, o, none⟩ = w.cell? ⟨b, o, none⟩

theorem Keeps.refl (S : Stab) (w : World) : Keeps S w w := fun _ _ _ => rfl

mutual
theorem Rep.mono {w w' : World} {S S' : Stab} (hk : Keeps S w w') (hs : ∀ b o, S b o → S' b o) : ∀ (x : IV) (v : Value), Rep w S x v → Rep w' S' x v
  | .int k n, v, h => h
  | .bool b, v, h => h
  | .str s, v, h => h
  | .nilp, v, h => h
  | .ref cells, v, ⟨blk, off, h1, h2⟩ => ⟨blk, off, h1, RepCells.mono hk hs cells blk off h2⟩
  | .slice rows, v, ⟨a, cap, h1, h2, h3⟩ => ⟨a, cap, h1, h2, fun hn => let ⟨blk, off, s, h4, h5⟩ := h3 hn; ⟨blk, off, s, h4, RepRows.mono hk hs rows s blk off h5⟩⟩
  | .nilf, v, h => h
  | .fn f caps, v, ⟨vs, h1, h2⟩ => ⟨vs, h1, RepList.mono hk hs caps _ h2⟩
  | .nili, v, h => h
  | .iface t x, v, ⟨u, h1, h2⟩ => ⟨u, h1, Rep.mono hk hs x u h2⟩
  | .agg cells, v, ⟨vs, h1, h2⟩ => ⟨vs, h1, RepOnes.mono hk hs cells _ h2⟩
  | .tuple xs, v, ⟨vs, h1, h2⟩ => ⟨vs, h1, RepList.mono hk hs xs _ h2⟩
theorem RepList.mono {w w' : World} {S S' : Stab} (hk : Keeps S w w') (hs : ∀ b o, S b o → S' b o) : ∀ (x : List IV) (v : List Value), RepList w S x v → RepList w' S' x v
  | [], v, h => h
  | x :: xs, v, ⟨u, us, h1, h2, h3⟩ => ⟨u, us, h1, Rep.mono hk hs x u h2, RepList.mono hk hs xs us h3⟩
theorem RepOnes.mono {w w' : World} {S S' : Stab} (hk : Keeps S w w') (hs : ∀ b o, S b o → S' b o) : ∀ (x : List IV) (v : List Value), RepOnes w S x v → RepOnes w' S' x v
  | [], v, h => h
  | x :: xs, v, ⟨u, us, h1, h0, h2, h3⟩ => ⟨u, us, h1, h0, Rep.mono hk hs x u h2, RepOnes.mono hk hs xs us h3⟩
theorem RepCells.mono {w w' : World} {S S' : Stab} (hk : Keeps S w w') (hs : ∀ b o, S b o → S' b o) : ∀ (x : List IV) (blk off : Nat), RepCells w S x blk off → RepCells w' S' x blk off
  | [], _, _, _ => trivial
  | x :: xs, blk, off, ⟨h1, h2, ⟨v, h3, h4⟩, h5⟩ => ⟨hs _ _ h1, h2, ⟨v, (hk _ _ h1).trans h3, Rep.mono hk hs x v h4⟩, RepCells.mono hk hs xs blk (off + 1) h5⟩
theorem RepRows.mono {w w' : World} {S S' : Stab} (hk : Keeps S w w') (hs : ∀ b o, S b o → S' b o) : ∀ (x : List (List IV)) (s blk off : Nat), RepRows w S x s blk off → RepRows w' S' x s blk off
  | [], _, _, _, _ => trivial
  | r :: rs, s, blk, off, ⟨h1, h2, h3⟩ => ⟨h1, RepCells.mono hk hs r blk off h2, RepRows.mono hk hs rs s blk (off + s) h3⟩
end
mutual
theorem SVRel.mono {w w' : World} {S S' : Stab} (hk : Keeps S w w') (hs : ∀ b o, S b o → S' b o) {μ : Nat → Value} {objs : List (Nat × Ob)} : ∀ (x : SV) (v : Value), SVRel w S μ objs x v → SVRel w' S' μ objs x v
  | .undef, v, h => h
  | .val x, v, h => Rep.mono hk hs x v h
  | .nils, v, h => h
  | .full rows, v, h => ⟨Rep.mono hk hs _ v h.1, h.2⟩
  | .own id ver, v, h => h
  | .loc id off, v, h => h
  | .eloc id ver i off, v, h => h
  | .view id ver lo hi, v, h => h
  | .agg cells, v, ⟨vs, h1, h2⟩ => ⟨vs, h1, SVOnes.mono hk hs cells _ h2⟩
  | .clo f caps, v, ⟨vs, h1, h2⟩ => ⟨vs, h1, SVList.mono hk hs caps _ h2⟩
  | .ifc t x, v, ⟨u, h1, h2⟩ => ⟨u, h1, SVRel.mono hk hs x u h2⟩
  | .anyB, v, h => h
theorem SVList.mono {w w' : World} {S S' : Stab} (hk : Keeps S w w') (hs : ∀ b o, S b o → S' b o) {μ : Nat → Value} {objs : List (Nat × Ob)} : ∀ (x : List SV) (v : List Value), SVList w S μ objs x v → SVList w' S' μ objs x v
  | [], v, h => h
  | x :: xs, v, ⟨u, us, h1, h2, h3⟩ => ⟨u, us, h1, SVRel.mono hk hs x u h2, SVList.mono hk hs xs us h3⟩
theorem SVOnes.mono {w w' : World} {S S' : Stab} (hk : Keeps S w w') (hs : ∀ b o, S b o → S' b o) {μ : Nat → Value} {objs : List (Nat × Ob)} : ∀ (x : List SV) (v : List Value), SVOnes w S μ objs x v → SVOnes w' S' μ objs x v
  | [], v, h => h
  | x :: xs, v, ⟨u, us, h1, h0, h2, h3⟩ => ⟨u, us, h1, h0, SVRel.mono hk hs x u h2, SVOnes.mono hk hs xs us h3⟩
end

def Ob.noRef (d : Nat) : Ob → Bool
  | .box cells => SV.noRefs d cells
  | .arr _ _ _ => true
def noRefE (d : Nat) : List (Nat × SV) → Bool
  | [] => true
  | (_, v) :: r => v.noRef d && noRefE d r
def noRefO (d : Nat) : List (Nat × Ob) → Bool
  | [] => true
  | (_, v) :: r => v.noRef d && noRefO d r

section
variable {α : Type}
theorem look_del_ne (l : List (Nat × α)) {k j : Nat} (h : j ≠ k) : look (del l k) j = look l j := by
  induction l with
  | nil => rfl
  | cons p r ih =>
    obtain ⟨i, v⟩ := p
    by_cases hik : i = k
    · subst hik
      have hij : (i == j) = false := by simpa using (fun e => h e.symm)
      simp [del, look, hij]
    · have : (i == k) = false := by simpa using hik
      simp only [del, this, look, cond_false, ih]
theorem look_put_self (l : List (Nat × α)) (k : Nat) (v : α) : look (put l k v) k = some v := by simp [put, look]
theorem look_put_ne (l : List (Nat × α)) {k j : Nat} (v : α) (h : j ≠ k) : look (put l k v) j = look l j := by
  have : (k == j) = false := by simpa using (fun e => h e.symm)
  simp [put, look, this]
theorem look_put (l : List (Nat × α)) (k j : Nat) (v : α) : look (put l k v) j = if j = k then some v else look l j := by
  split
  · next h => subst h; exact look_put_self _ _ _
  · next h => exact look_put_ne _ _ h
end
theorem getE_put (l : List (Nat × SV)) (k j : Nat) (v : SV) : getE (put l k v) j = if j = k then v else getE l j := by
  unfold getE; rw [look_put]; split <;> rfl

def SV.erase (d : Nat) (v : SV) : SV := bif v.noRef d then v else .undef
def eraseL (d : Nat) : List SV → List SV
  | [] => []
  | v :: r => v.erase d :: eraseL d r
def Ob.erase (d : Nat) : Ob → Ob
  | .box cells => .box (eraseL d cells)
  | .arr ver s rows => .arr ver s rows
def eraseE (d : Nat) : List (Nat × SV) → List (Nat × SV)
  | [] => []
  | (k, v) :: r => (k, v.erase d) :: eraseE d r
def eraseO (d : Nat) : List (Nat × Ob) → List (Nat × Ob)
  | [] => []
  | (k, v) :: r => (k, v.erase d) :: eraseO d r

theorem SV.noRef_erase (d : Nat) (v : SV) : (v.erase d).noRef d = true := by
  unfold SV.erase
  cases h : v.noRef d
  · rfl
  · exact h
theorem noRefs_eraseL (d : Nat) : ∀ l : List SV, SV.noRefs d (eraseL d l) = true
  | [] => rfl
  | v :: r => by simp [eraseL, SV.noRefs, SV.noRef_erase, noRefs_eraseL d r]
theorem getE_eraseE (d : Nat) (env : List (Nat × SV)) (k : Nat) : getE (eraseE d env) k = (getE env k).erase d := by
  induction env with
  | nil => rfl
  | cons p r ih =>
    obtain ⟨i, v⟩ := p
    unfold getE at ih ⊢
    simp only [eraseE, look]
    cases i == k
    · exact ih
    · rfl
theorem look_eraseO (d : Nat) (objs : List (Nat × Ob)) (k : Nat) : look (eraseO d objs) k = (look objs k).map (Ob.erase d) := by
  induction objs with
  | nil => rfl
  | cons p r ih =>
    obtain ⟨i, v⟩ := p
    simp only [eraseO, look]
    cases i == k
    · exact ih
    · rfl
theorem SVRel.erase {w : World} {S : Stab} {μ : Nat → Value} {objs : List (Nat × Ob)} {x : SV} {v : Value} (d : Nat) (h : SVRel w S μ objs x v) : SVRel w S μ objs (x.erase d) v := by
  unfold SV.erase
  cases x.noRef d
  · trivial
  · exact h
theorem SVOnes.erase {w : World} {S : Stab} {μ : Nat → Value} {objs : List (Nat × Ob)} (d : Nat) : ∀ {x : List SV} {vs : List Value}, SVOnes w S μ objs x vs → SVOnes w S μ objs (eraseL d x) vs
  | [], _, h => h
  | _ :: _, _, ⟨u, us, h1, h0, h2, h3⟩ => ⟨u, us, h1, h0, SVRel.erase d h2, SVOnes.erase d h3⟩

theorem noRefE_get {d : Nat} {env : List (Nat × SV)} (h : noRefE d env = true) (k : Nat) : (getE env k).noRef d = true := by
  induction env with
  | nil => rfl
  | cons p r ih =>
    obtain ⟨i, v⟩ := p
    simp only [noRefE, Bool.and_eq_true] at h
    unfold getE
    simp only [look]
    cases hik : i == k
    · exact ih h.2
    · exact h.1
theorem noRefO_get {d : Nat} {objs : List (Nat × Ob)} (h : noRefO d objs = true) {k : Nat} {o : Ob} (hk : look objs k = some o) : o.noRef d = true := by
  induction objs with
  | nil => simp [look] at hk
  | cons p r ih =>
    obtain ⟨i, v⟩ := p
    simp only [noRefO, Bool.and_eq_true] at h
    simp only [look] at hk
    cases hik : i == k
    · rw [hik] at hk; exact ih h.2 hk
    · rw [hik] at hk; simp at hk; subst hk; exact h.1
theorem noRefO_del {d : Nat} {objs : List (Nat × Ob)} (h : noRefO d objs = true) (k : Nat) : noRefO d (del objs k) = true := by
  induction objs with
  | nil => rfl
  | cons p r ih =>
    obtain ⟨i, v⟩ := p
    simp only [noRefO, Bool.and_eq_true] at h
    simp only [del]
    cases hik : i == k
    · simp [noRefO, h.1, ih h.2]
    · exact h.2

/- A change of the objects and their places that a handle does not look at. -/
mutual
theorem SVRel.other {w : World} {S : Stab} {μ μ' : Nat → Value} {objs objs' : List (Nat × Ob)} {d : Nat} (hμ : ∀ id, id ≠ d → μ' id = μ id) (ho : ∀ id, id ≠ d → look objs' id = look objs id) : ∀ (x : SV) (v : Value), x.noRef d = true → SVRel w S μ objs x v → SVRel w S μ' objs' x v
  | .undef, v, _, h => h
  | .val x, v, _, h => h
  | .nils, v, _, h => h
  | .full rows, v, _, h => h
  | .own id ver, v, hn, h => by
    have hid : id ≠ d := by simpa [SV.noRef] using hn
    simpa only [SVRel, ho id hid, hμ id hid] using h
  | .loc id off, v, hn, h => by
    have hid : id ≠ d := by simpa [SV.noRef] using hn
    simpa only [SVRel, ho id hid, hμ id hid] using h
  | .eloc id ver i off, v, hn, h => by
    have hid : id ≠ d := by simpa [SV.noRef] using hn
    simpa only [SVRel, ho id hid, hμ id hid] using h
  | .view id ver lo hi, v, hn, h => by
    have hid : id ≠ d := by simpa [SV.noRef] using hn
    simpa only [SVRel, ho id hid, hμ id hid] using h
  | .agg cells, v, hn, ⟨vs, h1, h2⟩ => ⟨vs, h1, SVOnes.other hμ ho cells _ (by simpa [SV.noRef] using hn) h2⟩
  | .clo f caps, v, hn, ⟨vs, h1, h2⟩ => ⟨vs, h1, SVList.other hμ ho caps _ (by simpa [SV.noRef] using hn) h2⟩
  | .ifc t x, v, hn, ⟨u, h1, h2⟩ => ⟨u, h1, SVRel.other hμ ho x u (by simpa [SV.noRef] using hn) h2⟩
  | .anyB, v, _, h => h
theorem SVList.other {w : World} {S : Stab} {μ μ' : Nat → Value} {objs objs' : List (Nat × Ob)} {d : Nat} (hμ : ∀ id, id ≠ d → μ' id = μ id) (ho : ∀ id, id ≠ d → look objs' id = look objs id) : ∀ (x : List SV) (v : List Value), SV.noRefs d x = true → SVList w S μ objs x v → SVList w S μ' objs' x v
  | [], v, _, h => h
  | x :: xs, v, hn, ⟨u, us, h1, h2, h3⟩ => by
    simp only [SV.noRefs, Bool.and_eq_true] at hn
    exact ⟨u, us, h1, SVRel.other hμ ho x u hn.1 h2, SVList.other hμ ho xs us hn.2 h3⟩
theorem SVOnes.other {w : World} {S : Stab} {μ μ' : Nat → Value} {objs objs' : List (Nat × Ob)} {d : Nat} (hμ : ∀ id, id ≠ d → μ' id = μ id) (ho : ∀ id, id ≠ d → look objs' id = look objs id) : ∀ (x : List SV) (v : List Value), SV.noRefs d x = true → SVOnes w S μ objs x v → SVOnes w S μ' objs' x v
  | [], v, _, h => h
  | x :: xs, v, hn, ⟨u, us, h1, h0, h2, h3⟩ => by
    simp only [SV.noRefs, Bool.and_eq_true] at hn
    exact ⟨u, us, h1, h0, SVRel.other hμ ho x u hn.1 h2, SVOnes.other hμ ho xs us hn.2 h3⟩
end

/- The objects' contents have turned, their kinds have not; where an array's version has not gone up, its place and length have not turned. -/
mutual
theorem SVRel.same {w : World} {S : Stab} {μ μ' : Nat → Value} {objs objs' : List (Nat × Ob)}
    (hb : ∀ id cells, look objs' id = some (.box cells) → ∃ cells', look objs id = some (.box cells') ∧ μ' id = μ id)
    (ha : ∀ id cv s rows, look objs' id = some (.arr cv s rows) → ∃ cv' rows', look objs id = some (.arr cv' s rows') ∧ cv' ≤ cv ∧ (cv' = cv → rows'.length = rows.length ∧ μ' id = μ id)) :
    ∀ (x : SV) (v : Value), SVRel w S μ objs x v → SVRel w S μ' objs' x v
  | .undef, v, h => h
  | .val x, v, h => h
  | .nils, v, h => h
  | .full rows, v, h => h
  | .own id ver, v, h => by
    intro cv s rows hl
    obtain ⟨cv', rows', h1, h2, h5⟩ := ha id cv s rows hl
    obtain ⟨h3, h4⟩ := h _ _ _ h1
    exact ⟨Nat.le_trans h3 h2, fun e => by rw [(h5 (by omega)).2]; exact h4 (by omega)⟩
  | .loc id off, v, h => by
    intro cells hl
    obtain ⟨cells', h1, h2⟩ := hb id cells hl
    rw [h2]
    exact h _ h1
  | .eloc id ver i off, v, h => by
    intro cv s rows hl
    obtain ⟨cv', rows', h1, h2, h5⟩ := ha id cv s rows hl
    obtain ⟨h3, h4⟩ := h _ _ _ h1
    refine ⟨Nat.le_trans h3 h2, fun e => ?_⟩
    obtain ⟨b, cap, h6, h7⟩ := h4 (by omega)
    obtain ⟨h8, h9⟩ := h5 (by omega)
    exact ⟨b, cap, by rw [h9, h6, h8], h7⟩
  | .view id ver lo hi, v, h => by
    intro cv s rows hl
    obtain ⟨cv', rows', h1, h2, h5⟩ := ha id cv s rows hl
    obtain ⟨h3, h4⟩ := h _ _ _ h1
    refine ⟨Nat.le_trans h3 h2, fun e => ?_⟩
    obtain ⟨g1, g2, x, cap, y, g3, g4⟩ := h4 (by omega)
    obtain ⟨h8, h9⟩ := h5 (by omega)
    exact ⟨g1, by omega, x, cap, y, by rw [h9, g3, h8], by rw [← h8]; exact g4⟩
  | .agg cells, v, ⟨vs, h1, h2⟩ => ⟨vs, h1, SVOnes.same hb ha cells _ h2⟩
  | .clo f caps, v, ⟨vs, h1, h2⟩ => ⟨vs, h1, SVList.same hb ha caps _ h2⟩
  | .ifc t x, v, ⟨u, h1, h2⟩ => ⟨u, h1, SVRel.same hb ha x u h2⟩
  | .anyB, v, h => h
theorem SVList.same {w : World} {S : Stab} {μ μ' : Nat → Value} {objs objs' : List (Nat × Ob)}
    (hb : ∀ id cells, look objs' id = some (.box cells) → ∃ cells', look objs id = some (.box cells') ∧ μ' id = μ id)
    (ha : ∀ id cv s rows, look objs' id = some (.arr cv s rows) → ∃ cv' rows', look objs id = some (.arr cv' s rows') ∧ cv' ≤ cv ∧ (cv' = cv → rows'.length = rows.length ∧ μ' id = μ id)) :
    ∀ (x : List SV) (v : List Value), SVList w S μ objs x v → SVList w S μ' objs' x v
  | [], v, h => h
  | x :: xs, v, ⟨u, us, h1, h2, h3⟩ => ⟨u, us, h1, SVRel.same hb ha x u h2, SVList.same hb ha xs us h3⟩
theorem SVOnes.same {w : World} {S : Stab} {μ μ' : Nat → Value} {objs objs' : List (Nat × Ob)}
    (hb : ∀ id cells, look objs' id = some (.box cells) → ∃ cells', look objs id = some (.box cells') ∧ μ' id = μ id)
    (ha : ∀ id cv s rows, look objs' id = some (.arr cv s rows) → ∃ cv' rows', look objs id = some (.arr cv' s rows') ∧ cv' ≤ cv ∧ (cv' = cv → rows'.length = rows.length ∧ μ' id = μ id)) :
    ∀ (x : List SV) (v : List Value), SVOnes w S μ objs x v → SVOnes w S μ' objs' x v
  | [], v, h => h
  | x :: xs, v, ⟨u, us, h1, h0, h2, h3⟩ => ⟨u, us, h1, h0, SVRel.same hb ha x u h2, SVOnes.same hb ha xs us h3⟩
end

end Go.Vs
