/- Part 1 of the proof of CondBack: the framework of abstract values and the walks over the functions that the law reaches. -/
import Derived.Calls
import Derived.Still
import Derived.Laws.CopyRow
import Derived.Laws.Append
import Derived.Below
import Derived.KernelRfl
import Derived.Deep.Draws
import Derived.Laws.BytesArg
section
/- Abstract values: data trees that stand for what Go values lead to in the model's memory; when a row of cells stands for a tree; reading and writing inside a tree. No program in sight. -/
namespace Go.Av
open Go
set_option linter.unusedVariables false
set_option linter.unusedSimpArgs false

/-- What the package-level variables hold that are read: a number for each, and its tree. -/
def lkG {α : Type} : List (Nat × α) → Nat → Option α
  | [], _ => none
  | p :: l, g => if g = p.1 then some p.2 else lkG l g

/-- Persistent data: nothing in it is written any more. -/
inductive PV where
  | v (x : Value)
  | ints (k : IntKind) (n : Nat) (l : List Int)
  | st (fs : List PV)
  | sl (k : Nat) (es : List PV)
  deriving Inhabited

/-- The variables of a program that are laid before it runs, and that nobody writes. -/
class Globs where
  G : List (Nat × PV)

mutual
def PV.size : PV → Nat
  | .v _ => 1
  | .ints _ n _ => n
  | .st fs => PV.sizeL fs
  | .sl _ _ => 1
def PV.sizeL : List PV → Nat
  | [] => 0
  | f :: fs => PV.size f + PV.sizeL fs
end

inductive Shape where
  | one
  | arr (n : Nat)
  | st (fs : List Shape)
  | blob (n : Nat)
  deriving Inhabited

mutual
def Shape.size : Shape → Nat
  | .one => 1
  | .arr n => n
  | .st fs => Shape.sizeL fs
  | .blob n => n
def Shape.sizeL : List Shape → Nat
  | [] => 0
  | f :: fs => Shape.size f + Shape.sizeL fs
end

mutual
def PV.shape : PV → Shape
  | .v _ => .one
  | .ints _ n _ => .arr n
  | .st fs => .st (PV.shapeL fs)
  | .sl _ _ => .one
def PV.shapeL : List PV → List Shape
  | [] => []
  | f :: fs => PV.shape f :: PV.shapeL fs
end

def Shape.off : List Nat → Shape → Nat
  | [], _ => 0
  | i :: r, .st fs => Shape.sizeL (fs.take i) + Shape.off r (fs.getD i .one)
  | i :: _, .arr _ => i
  | _ :: _, _ => 0

/-- How many elements lie in a row at the end of a path. -/
def Shape.cnt : List Nat → Shape → Nat
  | [], .arr n => n
  | [], .st fs => fs.length
  | i :: r, .st fs => Shape.cnt r (fs.getD i .one)
  | _, _ => 0

def PV.get? : List Nat → PV → Option PV
  | [], x => some x
  | i :: r, .st fs => match fs[i]? with
    | some f => PV.get? r f
    | none => none
  | i :: r, .ints k _ l => match r, l[i]? with
    | [], some x => some (.v (.int k x))
    | _, _ => none
  | _ :: _, _ => none

def PV.set? : List Nat → PV → PV → Option PV
  | [], _, y => some y
  | i :: r, .st fs, y => match fs[i]? with
    | some f => (PV.set? r f y).map fun f' => .st (fs.set i f')
    | none => none
  | i :: r, .ints k n l, y => match r, y with
    | [], .v (.int k' x) => if k = k' ∧ i < l.length then some (.ints k n (l.set i x)) else none
    | _, _ => none
  | _ :: _, _, _ => none

/-- Abstract values: persistent data, and references to what the running function owns. -/
inductive AV where
  | any (n : Nat)
  | p (x : PV)
  | st (fs : List AV)
  | ptr (id : Nat) (path : List Nat)
  | pp (x : PV)
  | slt (tok k : Nat) (es : List PV)
  | osl (id : Nat) (path : List Nat) (k n : Nat)
  | oss (id : Nat) (path : List Nat) (st k n : Nat)
  | fn (f : Fn) (caps : List AV)
  | ifc (t : TypeId) (x : AV)
  | tup (vs : List AV)
  deriving Inhabited

mutual
def AV.size : AV → Nat
  | .any n => n
  | .p x => x.size
  | .st fs => AV.sizeL fs
  | .ptr _ _ => 1
  | .pp _ => 1
  | .slt _ _ _ => 1
  | .osl _ _ _ _ => 1
  | .oss _ _ _ _ _ => 1
  | .fn _ _ => 1
  | .ifc _ _ => 1
  | .tup _ => 1
def AV.sizeL : List AV → Nat
  | [] => 0
  | f :: fs => AV.size f + AV.sizeL fs
end

mutual
def AV.shape : AV → Shape
  | .any n => if n = 1 then .one else .blob n
  | .p x => x.shape
  | .st fs => .st (AV.shapeL fs)
  | .ptr _ _ => .one
  | .pp _ => .one
  | .slt _ _ _ => .one
  | .osl _ _ _ _ => .one
  | .oss _ _ _ _ _ => .one
  | .fn _ _ => .one
  | .ifc _ _ => .one
  | .tup _ => .one
def AV.shapeL : List AV → List Shape
  | [] => []
  | f :: fs => AV.shape f :: AV.shapeL fs
end

mutual
def AV.refs : AV → List Nat
  | .any _ => []
  | .p _ => []
  | .st fs => AV.refsL fs
  | .ptr id _ => [id]
  | .pp _ => []
  | .slt tok _ _ => [tok]
  | .osl id _ _ _ => [id]
  | .oss id _ _ _ _ => [id]
  | .fn _ caps => AV.refsL caps
  | .ifc _ x => AV.refs x
  | .tup vs => AV.refsL vs
def AV.refsL : List AV → List Nat
  | [] => []
  | f :: fs => AV.refs f ++ AV.refsL fs
end

def AV.isAgg : AV → Bool
  | .p (.ints _ _ _) => true
  | .p (.st _) => true
  | .st _ => true
  | _ => false

def AV.get? : List Nat → AV → Option AV
  | [], a => some a
  | i :: r, .st fs => match fs[i]? with
    | some f => AV.get? r f
    | none => none
  | i :: r, .p x => (PV.get? (i :: r) x).map .p
  | _ :: _, _ => none

def AV.set? : List Nat → AV → AV → Option AV
  | [], _, y => some y
  | i :: r, .st fs, y => match fs[i]? with
    | some f => (AV.set? r f y).map fun f' => .st (fs.set i f')
    | none => none
  | i :: r, .p (.st fs), y => match y with
    | .p y' => (PV.set? (i :: r) (.st fs) y').map .p
    | y => match fs[i]? with
      | some f => (AV.set? r (.p f) y).map fun f' => .st ((fs.map .p).set i f')
      | none => none
  | i :: r, .p x, y => match y with
    | .p y' => (PV.set? (i :: r) x y').map .p
    | _ => none
  | _ :: _, _, _ => none

/-! ### sizes and shapes -/
theorem PV.shapeL_map (fs : List PV) : PV.shapeL fs = fs.map PV.shape := by
  induction fs with
  | nil => rfl
  | cons f fs ih => simp [PV.shapeL, ih]
theorem AV.shapeL_map (fs : List AV) : AV.shapeL fs = fs.map AV.shape := by
  induction fs with
  | nil => rfl
  | cons f fs ih => simp [AV.shapeL, ih]
theorem AV.shapeL_p (fs : List PV) : AV.shapeL (fs.map .p) = PV.shapeL fs := by
  induction fs with
  | nil => rfl
  | cons f fs ih => simp [AV.shapeL, PV.shapeL, AV.shape, ih]

mutual
theorem PV.size_shape : ∀ x : PV, x.shape.size = x.size
  | .v _ => rfl
  | .ints _ _ _ => rfl
  | .st fs => by simp only [PV.shape, Shape.size, PV.size]; exact PV.sizeL_shape fs
  | .sl _ _ => rfl
theorem PV.sizeL_shape : ∀ fs : List PV, Shape.sizeL (PV.shapeL fs) = PV.sizeL fs
  | [] => rfl
  | f :: fs => by simp only [PV.shapeL, Shape.sizeL, PV.sizeL, PV.size_shape f, PV.sizeL_shape fs]
end
mutual
theorem AV.size_shape : ∀ x : AV, x.shape.size = x.size
  | .any n => by
    simp only [AV.shape, AV.size]
    split
    · rename_i h; subst h; rfl
    · rfl
  | .p x => PV.size_shape x
  | .st fs => by simp only [AV.shape, Shape.size, AV.size]; exact AV.sizeL_shape fs
  | .ptr _ _ => rfl
  | .pp _ => rfl
  | .slt _ _ _ => rfl
  | .osl _ _ _ _ => rfl
  | .oss _ _ _ _ _ => rfl
  | .fn _ _ => rfl
  | .ifc _ _ => rfl
  | .tup _ => rfl
theorem AV.sizeL_shape : ∀ fs : List AV, Shape.sizeL (AV.shapeL fs) = AV.sizeL fs
  | [] => rfl
  | f :: fs => by simp only [AV.shapeL, Shape.sizeL, AV.sizeL, AV.size_shape f, AV.sizeL_shape fs]
end

end Go.Av
end

section
/- Abstract values: when a row of the model's cells stands for a tree, in a world; what a change of the world leaves of it. -/
namespace Go.Av
open Go
set_option linter.unusedVariables false
set_option linter.unusedSimpArgs false

/-- Places that are written yet (block, offset): persistent data lies outside. -/
abbrev Avoid := Nat → Nat → Prop

def Cells (w : World) (A : Avoid) (b o : Nat) (vs : List Value) : Prop :=
  ∀ j x, vs[j]? = some x → w.cell? ⟨b, o + j, none⟩ = some x ∧ ¬ A b (o + j)

inductive RepP (w : World) (A : Avoid) : List Value → PV → Prop
  | v {x} (h : x.oneCell' = true) : RepP w A [x] (.v x)
  | ints {k n l} (h : l.length = n) : RepP w A (l.map (Value.int k)) (.ints k n l)
  | stn : RepP w A [] (.st [])
  | stc {vs ws f fs} (h : RepP w A vs f) (t : RepP w A ws (.st fs)) : RepP w A (vs ++ ws) (.st (f :: fs))
  | sln {a c k} : RepP w A [.slice a 0 c] (.sl k [])
  | sl {b off n c k es} (g : Nat → List Value) (hn : es.length = n) (hc : n ≤ c) (hk : ∀ i, i < n → (g i).length = k)
      (hr : ∀ i e, es[i]? = some e → RepP w A (g i) e) (hcells : ∀ i, i < n → Cells w A b (off + i * k) (g i)) :
      RepP w A [.slice (some ⟨b, off, none⟩) n c] (.sl k es)

theorem RepP.len {w : World} {A : Avoid} {vs : List Value} {x : PV} (h : RepP w A vs x) : vs.length = x.size := by
  induction h with
  | v _ => rfl
  | ints h => simp [PV.size, h]
  | stn => rfl
  | stc _ _ ih1 ih2 =>
    simp only [PV.size] at ih2 ⊢
    simp [PV.sizeL, ih1, ih2]
  | sln => rfl
  | sl _ _ _ _ _ _ _ => rfl

theorem RepP.one {w : World} {A : Avoid} {vs : List Value} {x : PV} (h : RepP w A vs x) : ∀ y ∈ vs, y.oneCell' = true := by
  induction h with
  | v h => simpa using h
  | ints h => intro y hy; simp at hy; obtain ⟨_, _, rfl⟩ := hy; rfl
  | stn => simp
  | stc _ _ ih1 ih2 =>
    intro y hy
    rcases List.mem_append.1 hy with hy | hy
    · exact ih1 y hy
    · exact ih2 y hy
  | sln => simp [Value.oneCell']
  | sl _ _ _ _ _ _ _ => simp [Value.oneCell']

/-- What a change of the world must leave: all cells that are not to be avoided. -/
def Keeps (w w' : World) (A A' : Avoid) : Prop := ∀ b o y, w.cell? ⟨b, o, none⟩ = some y → ¬ A b o → w'.cell? ⟨b, o, none⟩ = some y ∧ ¬ A' b o

theorem Keeps.refl (w : World) (A : Avoid) : Keeps w w A A := fun _ _ _ h h' => ⟨h, h'⟩
theorem Keeps.trans {a b c : World} {A B C : Avoid} (h : Keeps a b A B) (h' : Keeps b c B C) : Keeps a c A C :=
  fun x o y h1 h2 => h' x o y (h x o y h1 h2).1 (h x o y h1 h2).2
theorem Keeps.less {w : World} {A A' : Avoid} (h : ∀ b o, A' b o → A b o) : Keeps w w A A' := fun b o _ h1 h2 => ⟨h1, fun h3 => h2 (h b o h3)⟩

theorem RepP.move {w w' : World} {A A' : Avoid} (hk : Keeps w w' A A') {vs : List Value} {x : PV} (h : RepP w A vs x) : RepP w' A' vs x := by
  induction h with
  | v h => exact .v h
  | ints h => exact .ints h
  | stn => exact .stn
  | stc _ _ ih1 ih2 => exact .stc ih1 ih2
  | sln => exact .sln
  | sl g hn hc hlen _ hcells ih => exact .sl g hn hc hlen ih fun i hi j x hj => hk _ _ _ (hcells i hi j x hj).1 (hcells i hi j x hj).2

theorem RepP.st_inv {w : World} {A : Avoid} {vs : List Value} {f : PV} {fs : List PV} (h : RepP w A vs (.st (f :: fs))) :
    ∃ us ws, vs = us ++ ws ∧ RepP w A us f ∧ RepP w A ws (.st fs) := by
  cases h with
  | stc h t => exact ⟨_, _, rfl, h, t⟩

/-- A part of a struct: its cells, and what becomes of the whole when it is exchanged. -/
theorem RepP.stAt {w : World} {A : Avoid} {fs : List PV} : ∀ {vs : List Value} {i : Nat} {f : PV}, RepP w A vs (.st fs) → fs[i]? = some f →
    ∃ a us b, vs = a ++ us ++ b ∧ a.length = Shape.sizeL ((PV.shapeL fs).take i) ∧ RepP w A us f ∧ ∀ us' f', RepP w A us' f' → RepP w A (a ++ us' ++ b) (.st (fs.set i f')) := by
  induction fs with
  | nil => intro vs i f _ h; simp at h
  | cons g fs ih =>
    intro vs i f h hi
    obtain ⟨us, ws, rfl, h1, h2⟩ := h.st_inv
    cases i with
    | zero =>
      simp at hi
      subst hi
      exact ⟨[], us, ws, by simp, by simp [Shape.sizeL], h1, fun us' f' h' => by simpa using RepP.stc h' h2⟩
    | succ i =>
      obtain ⟨a, vs, b, rfl, hl, hr, hs⟩ := ih h2 (by simpa using hi)
      refine ⟨us ++ a, vs, b, by simp, ?_, hr, fun us' f' h' => ?_⟩
      · simp only [PV.shapeL, List.take_succ_cons, Shape.sizeL, List.length_append, hl, PV.size_shape, h1.len]
      · have := RepP.stc h1 (hs us' f' h')
        simpa using this

theorem RepP.at_ {w : World} {A : Avoid} : ∀ (path : List Nat) {vs : List Value} {x y : PV}, RepP w A vs x → x.get? path = some y →
    ∃ a us b, vs = a ++ us ++ b ∧ a.length = x.shape.off path ∧ RepP w A us y ∧
      ∀ us' y' x', RepP w A us' y' → y'.shape = y.shape → x.set? path y' = some x' → RepP w A (a ++ us' ++ b) x' ∧ x'.shape = x.shape := by
  intro path
  induction path with
  | nil =>
    intro vs x y h hg
    simp [PV.get?] at hg
    subst hg
    exact ⟨[], vs, [], by simp, by simp [Shape.off], h, fun us' y' x' h1 h2 h3 => by simp [PV.set?] at h3; subst h3; simpa using ⟨h1, h2⟩⟩
  | cons i r ih =>
    intro vs x y h hg
    cases x with
    | v x => simp [PV.get?] at hg
    | sl k es => simp [PV.get?] at hg
    | ints k n l =>
      simp only [PV.get?] at hg
      split at hg
      · rename_i z hz
        simp at hg
        subst hg
        cases h with
        | ints hl =>
        have hi := (List.getElem?_eq_some_iff.1 hz).1
        refine ⟨(l.take i).map (Value.int k), [.int k z], (l.drop (i + 1)).map (Value.int k), ?_, ?_, .v rfl, ?_⟩
        · rw [show ([Value.int k z] : List Value) = [z].map (Value.int k) from rfl, ← List.map_append, ← List.map_append]
          congr 1
          have e : l[i] = z := by have := List.getElem?_eq_some_iff.1 hz; exact this.2
          rw [← e]
          simp [List.take_append_drop]
        · simp [PV.shape, Shape.off]; omega
        · intro us' y' x' h1 h2 h3
          simp only [PV.set?] at h3
          split at h3
          · rename_i k' u _
            split at h3
            · rename_i hc
              obtain ⟨rfl, _⟩ := hc
              simp at h3
              subst h3
              cases h1 with
              | v _ =>
              refine ⟨?_, by simp [PV.shape]⟩
              have e : (l.take i).map (Value.int k) ++ [Value.int k u] ++ (l.drop (i + 1)).map (Value.int k) = (l.set i u).map (Value.int k) := by
                rw [show ([Value.int k u] : List Value) = [u].map (Value.int k) from rfl, ← List.map_append, ← List.map_append]
                congr 1
                rw [List.set_eq_take_append_cons_drop, if_pos hi]
                simp
              rw [e]
              exact .ints (by simpa using hl)
            · cases h3
          · cases h3
      · cases hg
    | st fs =>
      simp only [PV.get?] at hg
      split at hg
      · rename_i f hf
        obtain ⟨a, us, b, rfl, hl, hr, hs⟩ := h.stAt hf
        obtain ⟨a2, us2, b2, rfl, hl2, hr2, hs2⟩ := ih hr hg
        have hsh : (PV.shapeL fs)[i]? = some f.shape := by rw [PV.shapeL_map]; simp [hf]
        refine ⟨a ++ a2, us2, b2 ++ b, by simp, ?_, hr2, ?_⟩
        · simp [PV.shape, Shape.off, hl, hl2, List.getD_eq_getElem?_getD, hsh]
        · intro us' y' x' h1 h2 h3
          simp only [PV.set?, hf] at h3
          cases hset : PV.set? r f y' with
          | none => simp [hset] at h3
          | some f' =>
            simp [hset] at h3
            subst h3
            obtain ⟨h4, h5⟩ := hs2 us' y' f' h1 h2 hset
            refine ⟨by have := hs _ _ h4; simpa using this, ?_⟩
            simp only [PV.shape, PV.shapeL_map, List.map_set, h5]
            congr 1
            have hi := (List.getElem?_eq_some_iff.1 hf)
            obtain ⟨hi1, hi2⟩ := hi
            subst hi2
            rw [show PV.shape fs[i] = (List.map PV.shape fs)[i]'(by simpa using hi1) by simp]
            exact List.set_getElem_self _
      · cases hg
end Go.Av
end

section
/- Abstract values with references to what the running function owns: when cells stand for them; what a change leaves of it; parts of a tree. -/
namespace Go.Av
open Go
set_option linter.unusedVariables false
set_option linter.unusedSimpArgs false

structure Reg where
  b : Nat
  lo : Nat
  hi : Nat
  deriving Inhabited

/-- What the running function owns under a number: nothing; a row of cells (a variable of its own, a slice's array) with its content; the room behind a slice that grows, which has n elements. -/
inductive AObj where
  | dead
  | row (e : TypeId) (c : AV)
  | tail (n : Nat)
  deriving Inhabited

def OwnBy (m : Nat → Reg) (H : Nat → AObj) (id : Nat) : Avoid := fun b o => H id ≠ .dead ∧ (m id).b = b ∧ (m id).lo ≤ o ∧ o < (m id).hi
def Own (m : Nat → Reg) (H : Nat → AObj) : Avoid := fun b o => ∃ id, OwnBy m H id b o
def Avoid.or (A B : Avoid) : Avoid := fun b o => A b o ∨ B b o

def Conn (r : Reg) (k : Nat) (x : Value) : Prop :=
  (∃ a, x = .slice a 0 0 ∧ r.lo = r.hi) ∨ ∃ b off n cap, x = .slice (some ⟨b, off, none⟩) n cap ∧ n ≤ cap ∧ r.b = b ∧ r.lo = off + n * k ∧ r.hi = off + cap * k

inductive RepC (w : World) (A : Avoid) (m : Nat → Reg) (H : Nat → AObj) : List Value → AV → Prop
  | any {vs n} (hl : vs.length = n) (h1 : ∀ y ∈ vs, y.oneCell' = true) : RepC w A m H vs (.any n)
  | p {vs x} (h : RepP w A vs x) : RepC w A m H vs (.p x)
  | stn : RepC w A m H [] (.st [])
  | stc {vs ws f fs} (h : RepC w A m H vs f) (t : RepC w A m H ws (.st fs)) : RepC w A m H (vs ++ ws) (.st (f :: fs))
  | ptr {x id path} (h1 : x.oneCell' = true) (h : ∀ e c, H id = .row e c → x = .pointer (some ⟨(m id).b, c.shape.off path, none⟩)) : RepC w A m H [x] (.ptr id path)
  | pp {b o vs x} (h : RepP w A vs x) (hc : Cells w A b o vs) : RepC w A m H [.pointer (some ⟨b, o, none⟩)] (.pp x)
  | slt {x tok k es} (h : RepP w A [x] (.sl k es)) (ht : ∀ n, H tok = .tail n → es.length ≤ n ∧ (n = es.length → Conn (m tok) k x)) : RepC w A m H [x] (.slt tok k es)
  | osl {x id path k n} (h1 : x.oneCell' = true) (h : ∀ e c, H id = .row e c → ∃ cap, n ≤ cap ∧ Shape.cnt path c.shape ≤ cap ∧ x = .slice (some ⟨(m id).b, c.shape.off path, none⟩) n cap) : RepC w A m H [x] (.osl id path k n)
  | oss {x id path st k n} (h1 : x.oneCell' = true) (h : ∀ e c, H id = .row e c → ∃ cap, n ≤ cap ∧ x = .slice (some ⟨(m id).b, c.shape.off path + st * k, none⟩) n cap) : RepC w A m H [x] (.oss id path st k n)
  | fn {f} {vals : List Value} {caps : List AV} (hl : vals.length = caps.length) (hs : ∀ (i : Nat) (a : AV), caps[i]? = some a → a.isAgg = false) (h : ∀ (i : Nat) (a : AV) (x : Value), caps[i]? = some a → vals[i]? = some x → RepC w A m H [x] a) : RepC w A m H [.func f #[] vals.toArray] (.fn f caps)
  | ifc {t x a} (h : RepC w A m H [x] a) : RepC w A m H [.iface t x] (.ifc t a)

section
variable {w : World} {A : Avoid} {m : Nat → Reg} {H : Nat → AObj}

theorem RepC.len {vs : List Value} {x : AV} (h : RepC w A m H vs x) : vs.length = x.size := by
  induction h with
  | any hl _ => simpa [AV.size] using hl
  | p h => simpa [AV.size] using h.len
  | stn => rfl
  | stc _ _ ih1 ih2 =>
    simp only [AV.size] at ih2 ⊢
    simp [AV.sizeL, ih1, ih2]
  | ptr _ _ => rfl
  | pp _ _ => rfl
  | slt _ _ => rfl
  | osl _ _ => rfl
  | oss _ _ => rfl
  | fn _ _ _ _ => rfl
  | ifc _ _ => rfl

theorem RepC.one {vs : List Value} {x : AV} (h : RepC w A m H vs x) : ∀ y ∈ vs, y.oneCell' = true := by
  induction h with
  | any _ h1 => exact h1
  | p h => exact h.one
  | stn => simp
  | stc _ _ ih1 ih2 =>
    intro y hy
    rcases List.mem_append.1 hy with hy | hy
    · exact ih1 y hy
    · exact ih2 y hy
  | ptr h1 _ => simpa using h1
  | pp _ _ => simp [Value.oneCell']
  | slt h _ => exact h.one
  | osl h1 _ => simpa using h1
  | oss h1 _ => simpa using h1
  | fn _ _ _ _ => simp [Value.oneCell']
  | ifc _ _ => simp [Value.oneCell']
end

/-- What becomes of an owned thing: it goes, or it keeps its place and shape; a slice's room may shrink, and be another one if the slice has grown. -/
def HOk (o : AObj) (r : Reg) (o' : AObj) (r' : Reg) : Prop :=
  match o' with
  | .dead => True
  | .row e c' => ∃ c, o = .row e c ∧ c'.shape = c.shape ∧ r' = r
  | .tail n' => ∃ n, o = .tail n ∧ n ≤ n' ∧ (n' = n → r' = r)

theorem HOk.refl (o : AObj) (r : Reg) : HOk o r o r := by
  cases o with
  | dead => exact trivial
  | row e c => exact ⟨c, rfl, rfl, rfl⟩
  | tail n => exact ⟨n, rfl, Nat.le_refl _, fun _ => rfl⟩
theorem HOk.trans {o o1 o2 : AObj} {r r1 r2 : Reg} (h : HOk o r o1 r1) (h' : HOk o1 r1 o2 r2) : HOk o r o2 r2 := by
  cases o2 with
  | dead => exact trivial
  | row e c =>
    obtain ⟨c1, rfl, hs, rfl⟩ := h'
    obtain ⟨c0, rfl, hs0, rfl⟩ := h
    exact ⟨c0, rfl, hs.trans hs0, rfl⟩
  | tail n =>
    obtain ⟨n1, rfl, hs, h1⟩ := h'
    obtain ⟨n0, rfl, hs0, h0⟩ := h
    exact ⟨n0, rfl, Nat.le_trans hs0 hs, fun e => by rw [h1 (by omega), h0 (by omega)]⟩
theorem HOk.dead (o : AObj) (r r' : Reg) : HOk o r .dead r' := trivial

theorem refsL_mem {vs : List AV} {i : Nat} {a : AV} (h : vs[i]? = some a) {id : Nat} (hi : id ∈ a.refs) : id ∈ AV.refsL vs := by
  induction vs generalizing i with
  | nil => simp at h
  | cons c cs ih =>
    simp only [AV.refsL]
    cases i with
    | zero => simp at h; subst h; exact List.mem_append.2 (.inl hi)
    | succ i => exact List.mem_append.2 (.inr (ih (by simpa using h)))

theorem RepC.move {w w' : World} {A A' : Avoid} {m m' : Nat → Reg} {H H' : Nat → AObj} (hk : Keeps w w' A A') {vs : List Value} {x : AV} (h : RepC w A m H vs x)
    (hh : ∀ id ∈ x.refs, HOk (H id) (m id) (H' id) (m' id)) : RepC w' A' m' H' vs x := by
  induction h with
  | any hl h1 => exact .any hl h1
  | p h => exact .p (h.move hk)
  | stn => exact .stn
  | stc _ _ ih1 ih2 =>
    refine .stc (ih1 fun id hi => hh id ?_) (ih2 fun id hi => hh id ?_)
    · simp only [AV.refs, AV.refsL]; exact List.mem_append.2 (.inl hi)
    · simp only [AV.refs, AV.refsL] at hi ⊢; exact List.mem_append.2 (.inr hi)
  | @ptr x id path h1 h =>
    refine .ptr h1 fun e c hc => ?_
    have := hh id (by simp [AV.refs])
    rw [hc] at this
    obtain ⟨c0, h0, hs, hr⟩ := this
    rw [hs, hr]
    exact h e c0 h0
  | pp h hc => exact .pp (h.move hk) fun j x hj => hk _ _ _ (hc j x hj).1 (hc j x hj).2
  | @slt x tok k es h ht =>
    refine .slt (h.move hk) fun n hn => ?_
    have := hh tok (by simp [AV.refs])
    rw [hn] at this
    obtain ⟨n0, h0, hle, hr⟩ := this
    obtain ⟨h1, h2⟩ := ht n0 h0
    refine ⟨Nat.le_trans h1 hle, fun e => ?_⟩
    rw [hr (by omega)]
    exact h2 (by omega)
  | @osl x id path k n h1 h =>
    refine .osl h1 fun e c hc => ?_
    have := hh id (by simp [AV.refs])
    rw [hc] at this
    obtain ⟨c0, h0, hs, hr⟩ := this
    rw [hs, hr]
    exact h e c0 h0
  | @oss x id path st k n h1 h =>
    refine .oss h1 fun e c hc => ?_
    have := hh id (by simp [AV.refs])
    rw [hc] at this
    obtain ⟨c0, h0, hs, hr⟩ := this
    rw [hs, hr]
    exact h e c0 h0
  | @fn f vals caps hl hs h ih =>
    refine .fn hl hs fun i a x ha hx => ih i a x ha hx fun id hi => hh id ?_
    simp only [AV.refs]
    exact refsL_mem ha hi
  | ifc h ih => exact .ifc (ih fun id hi => hh id (by simpa [AV.refs] using hi))

section
variable {w : World} {A : Avoid} {m : Nat → Reg} {H : Nat → AObj}

theorem RepC.st_inv {vs : List Value} {f : AV} {fs : List AV} (h : RepC w A m H vs (.st (f :: fs))) :
    ∃ us ws, vs = us ++ ws ∧ RepC w A m H us f ∧ RepC w A m H ws (.st fs) := by
  cases h with
  | stc h t => exact ⟨_, _, rfl, h, t⟩

/-- A struct of persistent parts, part by part. -/
theorem RepC.st_of_p {fs : List PV} : ∀ {vs : List Value}, RepP w A vs (.st fs) → RepC w A m H vs (.st (fs.map .p)) := by
  induction fs with
  | nil => intro vs h; cases h; exact .stn
  | cons f fs ih =>
    intro vs h
    obtain ⟨us, ws, rfl, h1, h2⟩ := h.st_inv
    exact .stc (.p h1) (ih h2)
theorem RepC.p_of_st {fs : List PV} : ∀ {vs : List Value}, RepC w A m H vs (.st (fs.map .p)) → RepP w A vs (.st fs) := by
  induction fs with
  | nil => intro vs h; cases h; exact .stn
  | cons f fs ih =>
    intro vs h
    obtain ⟨us, ws, rfl, h1, h2⟩ := h.st_inv
    cases h1 with
    | p h1 => exact .stc h1 (ih h2)

theorem RepC.stAt {fs : List AV} : ∀ {vs : List Value} {i : Nat} {f : AV}, RepC w A m H vs (.st fs) → fs[i]? = some f →
    ∃ a us b, vs = a ++ us ++ b ∧ a.length = Shape.sizeL ((AV.shapeL fs).take i) ∧ RepC w A m H us f ∧ ∀ us' f', RepC w A m H us' f' → RepC w A m H (a ++ us' ++ b) (.st (fs.set i f')) := by
  induction fs with
  | nil => intro vs i f _ h; simp at h
  | cons g fs ih =>
    intro vs i f h hi
    obtain ⟨us, ws, rfl, h1, h2⟩ := h.st_inv
    cases i with
    | zero =>
      simp at hi
      subst hi
      exact ⟨[], us, ws, by simp, by simp [Shape.sizeL], h1, fun us' f' h' => by simpa using RepC.stc h' h2⟩
    | succ i =>
      obtain ⟨a, vs, b, rfl, hl, hr, hs⟩ := ih h2 (by simpa using hi)
      refine ⟨us ++ a, vs, b, by simp, ?_, hr, fun us' f' h' => ?_⟩
      · simp only [AV.shapeL, List.take_succ_cons, Shape.sizeL, List.length_append, hl, AV.size_shape, h1.len]
      · have := RepC.stc h1 (hs us' f' h')
        simpa using this
end

theorem List.set_same {α : Type} {l : List α} {i : Nat} {a : α} (h : l[i]? = some a) : l.set i a = l := by
  obtain ⟨hi, rfl⟩ := List.getElem?_eq_some_iff.1 h
  exact List.set_getElem_self _

section
variable {w : World} {A : Avoid} {m : Nat → Reg} {H : Nat → AObj}

theorem RepC.at_p {vs : List Value} {path : List Nat} {x : PV} {y : AV} (h : RepP w A vs x) (hg : (PV.get? path x).map AV.p = some y) :
    ∃ a us b, vs = a ++ us ++ b ∧ a.length = x.shape.off path ∧ RepC w A m H us y ∧
      ∀ us' y' x', RepP w A us' y' → y'.shape = y.shape → PV.set? path x y' = some x' → RepP w A (a ++ us' ++ b) x' ∧ x'.shape = x.shape := by
  cases hgx : PV.get? path x with
  | none => simp [hgx] at hg
  | some y0 =>
    simp [hgx] at hg
    subst hg
    obtain ⟨a, us, b, e, hl, hr, hs⟩ := h.at_ path hgx
    exact ⟨a, us, b, e, hl, .p hr, fun us' y' x' h1 h2 h3 => hs us' y' x' h1 (by simpa [AV.shape] using h2) h3⟩

theorem RepC.at_ : ∀ (path : List Nat) {vs : List Value} {x y : AV}, RepC w A m H vs x → x.get? path = some y →
    ∃ a us b, vs = a ++ us ++ b ∧ a.length = x.shape.off path ∧ RepC w A m H us y ∧
      ∀ us' y' x', RepC w A m H us' y' → y'.shape = y.shape → x.set? path y' = some x' → RepC w A m H (a ++ us' ++ b) x' ∧ x'.shape = x.shape := by
  intro path
  induction path with
  | nil =>
    intro vs x y h hg
    simp [AV.get?] at hg
    subst hg
    exact ⟨[], vs, [], by simp, by simp [Shape.off], h, fun us' y' x' h1 h2 h3 => by simp [AV.set?] at h3; subst h3; simpa using ⟨h1, h2⟩⟩
  | cons i r ih =>
    intro vs x y h hg
    -- a struct, part by part
    have struct : ∀ {fs : List AV} {vs : List Value} {y : AV}, RepC w A m H vs (.st fs) → (AV.st fs).get? (i :: r) = some y →
        ∃ a us b, vs = a ++ us ++ b ∧ a.length = (AV.st fs).shape.off (i :: r) ∧ RepC w A m H us y ∧
          ∀ us' y' x', RepC w A m H us' y' → y'.shape = y.shape → (AV.st fs).set? (i :: r) y' = some x' → RepC w A m H (a ++ us' ++ b) x' ∧ x'.shape = (AV.st fs).shape := by
      intro fs vs y h hg
      simp only [AV.get?] at hg
      split at hg
      · rename_i f hf
        obtain ⟨a, us, b, rfl, hl, hr, hs⟩ := h.stAt hf
        obtain ⟨a2, us2, b2, rfl, hl2, hr2, hs2⟩ := ih hr hg
        have hsh : (AV.shapeL fs)[i]? = some f.shape := by rw [AV.shapeL_map]; simp [hf]
        refine ⟨a ++ a2, us2, b2 ++ b, by simp, ?_, hr2, ?_⟩
        · simp [AV.shape, Shape.off, hl, hl2, List.getD_eq_getElem?_getD, hsh]
        · intro us' y' x' h1 h2 h3
          simp only [AV.set?, hf] at h3
          cases hset : AV.set? r f y' with
          | none => simp [hset] at h3
          | some f' =>
            simp [hset] at h3
            subst h3
            obtain ⟨h4, h5⟩ := hs2 us' y' f' h1 h2 hset
            refine ⟨by have := hs _ _ h4; simpa using this, ?_⟩
            simp only [AV.shape, AV.shapeL_map, List.map_set, h5]
            congr 1
            exact List.set_same (by simp [hf])
      · cases hg
    cases x with
    | st fs => exact struct h hg
    | p x =>
      cases h with
      | p h =>
      simp only [AV.get?] at hg
      obtain ⟨a, us, b, e, hl, hr, hs⟩ := RepC.at_p (m := m) (H := H) h hg
      refine ⟨a, us, b, e, by simpa [AV.shape] using hl, hr, ?_⟩
      intro us' y' x' h1 h2 h3
      have pcase : ∀ z, y' = .p z → (PV.set? (i :: r) x z).map AV.p = some x' → RepC w A m H (a ++ us' ++ b) x' ∧ x'.shape = (AV.p x).shape := by
        intro z hz h6
        subst hz
        cases hset : PV.set? (i :: r) x z with
        | none => simp [hset] at h6
        | some x1 =>
          simp [hset] at h6
          subst h6
          cases h1 with
          | p h1 =>
          obtain ⟨h4, h5⟩ := hs us' z x1 h1 (by simpa [AV.shape] using h2) hset
          exact ⟨.p h4, by simpa [AV.shape] using h5⟩
      cases x with
      | st fs =>
        by_cases hp : ∃ z, y' = .p z
        · obtain ⟨z, rfl⟩ := hp
          exact pcase z rfl (by simpa [AV.set?] using h3)
        · -- the struct is no longer persistent in all its parts
          have hst := RepC.st_of_p (m := m) (H := H) h
          have hg' : (AV.st (fs.map .p)).get? (i :: r) = some y := by
            simp only [PV.get?] at hg
            cases hf : fs[i]? with
            | none => simp [hf] at hg
            | some f =>
              simp only [hf] at hg
              simp only [AV.get?, List.getElem?_map, hf, Option.map_some]
              cases r with
              | nil => simp only [AV.get?]; simpa [PV.get?] using hg
              | cons j r => simpa [AV.get?] using hg
          obtain ⟨a2, us2, b2, e2, hl2, hr2, hs2⟩ := struct hst hg'
          have hsh : (AV.st (fs.map .p)).shape = (AV.p (.st fs)).shape := by simp [AV.shape, PV.shape, AV.shapeL_p]
          have hlen : a2.length = a.length := by rw [hl2, hl, hsh]; rfl
          have hus : us2.length = us.length := by rw [hr2.len, hr.len]
          have ea : a2 = a := by
            have := congrArg (List.take a.length) (e2.symm.trans e)
            simp only [List.append_assoc] at this
            rwa [List.take_left' hlen, List.take_left] at this
          subst ea
          have eb : b2 = b := by
            have := congrArg (List.drop (a2.length + us.length)) (e2.symm.trans e)
            rw [List.drop_left' (by simp [hus]), List.drop_left' (by simp)] at this
            exact this
          subst eb
          have h3' : (AV.st (fs.map .p)).set? (i :: r) y' = some x' := by
            cases hf : fs[i]? with
            | none => simp only [PV.get?, hf] at hg; cases hg
            | some f =>
              have : AV.set? (i :: r) (.p (.st fs)) y' = (AV.set? r (.p f) y').map fun f' => .st ((fs.map .p).set i f') := by
                cases y' <;> simp_all [AV.set?]
              rw [this] at h3
              simpa [AV.set?, hf] using h3
          obtain ⟨h4, h5⟩ := hs2 us' y' x' h1 h2 h3'
          exact ⟨h4, h5.trans hsh⟩
      | v x0 => cases y' <;> first | (exact pcase _ rfl (by simpa [AV.set?] using h3)) | (simp [AV.set?] at h3)
      | ints k n l => cases y' <;> first | (exact pcase _ rfl (by simpa [AV.set?] using h3)) | (simp [AV.set?] at h3)
      | sl k es => cases y' <;> first | (exact pcase _ rfl (by simpa [AV.set?] using h3)) | (simp [AV.set?] at h3)
    | any n => simp [AV.get?] at hg
    | ptr id path => simp [AV.get?] at hg
    | pp x => simp [AV.get?] at hg
    | slt tok k es => simp [AV.get?] at hg
    | osl id path k n => simp [AV.get?] at hg
    | oss id path st k n => simp [AV.get?] at hg
    | fn f caps => simp [AV.get?] at hg
    | ifc t x => simp [AV.get?] at hg
    | tup vs => simp [AV.get?] at hg
end

/-- Temporaries: the value itself. -/
inductive RepV (w : World) (A : Avoid) (m : Nat → Reg) (H : Nat → AObj) : Value → AV → Prop
  | any {x n} : RepV w A m H x (.any n)
  | one {x a} (h : RepC w A m H [x] a) (hs : a.isAgg = false) : RepV w A m H x a
  | agg {vs a} (h : RepC w A m H vs a) (hs : a.isAgg = true) : RepV w A m H (.agg vs.toArray) a
  | tup {xs : List Value} {vs : List AV} (hl : xs.length = vs.length) (h : ∀ (i : Nat) (x : Value) (a : AV), xs[i]? = some x → vs[i]? = some a → RepV w A m H x a) : RepV w A m H (.tuple xs.toArray) (.tup vs)

theorem RepV.move {w w' : World} {A A' : Avoid} {m m' : Nat → Reg} {H H' : Nat → AObj} (hk : Keeps w w' A A') {x : Value} {a : AV} (h : RepV w A m H x a)
    (hh : ∀ id ∈ a.refs, HOk (H id) (m id) (H' id) (m' id)) : RepV w' A' m' H' x a := by
  induction h with
  | any => exact .any
  | one h hs => exact .one (h.move hk hh) hs
  | agg h hs => exact .agg (h.move hk hh) hs
  | @tup xs vs hl h ih => exact .tup hl fun i x a hx ha => ih i x a hx ha fun id hi => hh id (by simp only [AV.refs]; exact refsL_mem ha hi)
end Go.Av
end

section
/- Abstract values: states of a running function, when a world and its temporaries are as a state says, and what a step of the world leaves of it. -/
namespace Go.Av
open Go
set_option linter.unusedVariables false
set_option linter.unusedSimpArgs false
set_option linter.unusedSectionVars false
variable [Globs]

def upd {α : Type} (f : Nat → α) (i : Nat) (x : α) : Nat → α := fun j => if j = i then x else f j
theorem upd_same {α : Type} (f : Nat → α) (i : Nat) (x : α) : upd f i x i = x := by simp [upd]
theorem upd_ne {α : Type} (f : Nat → α) {i j : Nat} (x : α) (h : j ≠ i) : upd f i x j = f j := by simp [upd, h]
theorem upd_comm {α : Type} (f : Nat → α) {i j : Nat} (x y : α) (h : i ≠ j) : upd (upd f i x) j y = upd (upd f j y) i x := by
  funext k
  simp only [upd]
  split <;> split <;> simp_all

structure St where
  n : Nat
  T : Nat → AV
  H : Nat → AObj

/-- What a package-level variable's name stands for. -/
def globV : Option PV → Nat → AV
  | some y, _ => .pp y
  | none, g => .p (.v (.pointer (some ⟨g, 0, none⟩)))

def St.ev (s : St) : Operand → AV
  | .tmp t => s.T t
  | .const v => if v.oneCell' then .p (.v v) else .any 1
  | .global g => globV (lkG Globs.G g) g
  | .func f => .p (.v (.func (.func f) #[] #[]))

def St.put (s : St) (d : Option Tmp) (v : AV) : St :=
  match d with
  | some d => { s with T := upd s.T d v }
  | none => s
def mods (H : Nat → AObj) (l : List (Nat × AObj)) : Nat → AObj := l.foldl (fun H p => upd H p.1 p.2) H

/-- Nothing refers to this number. -/
def noRef (T : Nat → AV) (H : Nat → AObj) (id : Nat) : Prop := (∀ i, id ∉ (T i).refs) ∧ ∀ j e c, H j = .row e c → id ∉ c.refs

/-! ### What a step leaves of the world -/
structure Fr (O : Avoid) (w w' : World) : Prop where
  os : w'.os = w.os
  tape : w'.tape = w.tape
  output : w'.output = w.output
  size : w.heap.size ≤ w'.heap.size
  cells : ∀ b cs e fr, w.heap[b]? = some (.cells cs e fr) → ∃ cs', w'.heap[b]? = some (.cells cs' e fr) ∧ cs'.size = cs.size ∧ ∀ o, ¬ O b o → cs'[o]? = cs[o]?
  other : ∀ b x, w.heap[b]? = some x → (∀ cs e fr, x ≠ .cells cs e fr) → ¬ O b 0 → w'.heap[b]? = some x

theorem Fr.refl (O : Avoid) (w : World) : Fr O w w := ⟨rfl, rfl, rfl, Nat.le_refl _, fun b cs e fr h => ⟨cs, h, rfl, fun _ _ => rfl⟩, fun _ _ h _ _ => h⟩
theorem Fr.trans {O O' : Avoid} {a b c : World} (h : Fr O a b) (h' : Fr O' b c) (ho : ∀ x o, x < a.heap.size → O' x o → O x o) : Fr O a c := by
  refine ⟨h'.os.trans h.os, h'.tape.trans h.tape, h'.output.trans h.output, Nat.le_trans h.size h'.size, fun x cs e fr hx => ?_, fun x y hx hy hn => ?_⟩
  · obtain ⟨cs1, h1, h2, h3⟩ := h.cells x cs e fr hx
    obtain ⟨cs2, h4, h5, h6⟩ := h'.cells x cs1 e fr h1
    have hlt := (Array.getElem?_eq_some_iff.1 hx).1
    exact ⟨cs2, h4, h5.trans h2, fun o hn => (h6 o fun h7 => hn (ho x o hlt h7)).trans (h3 o hn)⟩
  · have hlt := (Array.getElem?_eq_some_iff.1 hx).1
    exact h'.other x y (h.other x y hx hy hn) hy fun h7 => hn (ho x 0 hlt h7)
theorem Fr.mono {O O' : Avoid} {a b : World} (h : Fr O a b) (ho : ∀ x o, x < a.heap.size → O x o → O' x o) : Fr O' a b := by
  refine ⟨h.os, h.tape, h.output, h.size, fun x cs e fr hx => ?_, fun x y hx hy hn => h.other x y hx hy fun h7 => hn (ho _ _ (Array.getElem?_eq_some_iff.1 hx).1 h7)⟩
  obtain ⟨cs1, h1, h2, h3⟩ := h.cells x cs e fr hx
  exact ⟨cs1, h1, h2, fun o hn => h3 o fun h7 => hn (ho _ _ (Array.getElem?_eq_some_iff.1 hx).1 h7)⟩
/-- Nothing of what was there has turned. -/
theorem Fr.of_below {O : Avoid} {w w' : World} (h : Go.RowKit.Below w.heap.size w w') : Fr O w w' := by
  refine ⟨h.os, h.tape, h.output, h.size, fun b cs e fr hb => ?_, fun b x hb _ _ => ?_⟩
  · have hlt := (Array.getElem?_eq_some_iff.1 hb).1
    exact ⟨cs, (h.block b hlt).trans hb, rfl, fun _ _ => rfl⟩
  · have hlt := (Array.getElem?_eq_some_iff.1 hb).1
    exact (h.block b hlt).trans hb
theorem Fr.below {w w' : World} (h : Fr (fun _ _ => False) w w') : Go.RowKit.Below w.heap.size w w' := by
  refine ⟨h.os, h.tape, h.output, h.size, fun b hb => ?_⟩
  obtain ⟨x, hx⟩ : ∃ x, w.heap[b]? = some x := ⟨_, Array.getElem?_eq_getElem hb⟩
  rw [hx]
  cases x with
  | cells cs e fr =>
    obtain ⟨cs', h1, h2, h3⟩ := h.cells b cs e fr hx
    have : cs' = cs := by
      apply Array.ext_getElem?
      intro i
      exact h3 i (fun h => h)
    rw [h1, this]
  | _ => exact h.other b _ hx (by intros; simp) (fun h => h)

theorem Fr.cell {O : Avoid} {w w' : World} (h : Fr O w w') {b o : Nat} {y : Value} (hc : w.cell? ⟨b, o, none⟩ = some y) (hn : ¬ O b o) : w'.cell? ⟨b, o, none⟩ = some y := by
  simp only [World.cell?] at hc ⊢
  cases hx : w.heap[b]? with
  | none => simp [hx] at hc
  | some x =>
    cases x with
    | cells cs e fr =>
      simp [hx] at hc
      obtain ⟨cs', h1, h2, h3⟩ := h.cells b cs e fr hx
      simp [h1, h3 o hn, hc]
    | _ => simp [hx] at hc

theorem Fr.alloc {O : Avoid} (w : World) (x : Obj) : Fr O w (w.alloc x) := Fr.of_below ((Go.RowKit.Below.refl _ _).alloc (Nat.le_refl _) x)
theorem Fr.drew {O : Avoid} (w : World) : Fr O w w.drew := Fr.of_below (Go.RowKit.Below.refl _ _).drew
theorem Fr.drewN {O : Avoid} (w : World) (n : Nat) : Fr O w (w.drewN n) := Fr.of_below ⟨rfl, rfl, rfl, Nat.le_refl _, fun _ _ => rfl⟩

/-! ### When a world and the temporaries are as a state says -/
def ObjOk (w : World) (A : Avoid) (m : Nat → Reg) (H : Nat → AObj) (id : Nat) : Prop :=
  match H id with
  | .dead => True
  | .row e c => ∃ cs vs, w.heap[(m id).b]? = some (.cells cs e (0, 0)) ∧ (m id).lo = 0 ∧ (m id).hi = vs.length ∧ cs.toList.take vs.length = vs ∧ RepC w A m H vs c
  | .tail _ => (m id).lo ≤ (m id).hi ∧ ((m id).lo < (m id).hi → ∃ cs e, w.heap[(m id).b]? = some (.cells cs e (0, 0)) ∧ (m id).hi ≤ cs.size)

abbrev St.av (F : Avoid) (m : Nat → Reg) (H : Nat → AObj) : Avoid := Avoid.or F (Own m H)

def GlobOk (w : World) (A : Avoid) : Prop := ∀ g y, lkG Globs.G g = some y → ∃ vs, RepP w A vs y ∧ Cells w A g 0 vs
theorem GlobOk.move {w w' : World} {A A' : Avoid} (hk : Keeps w w' A A') (h : GlobOk w A) : GlobOk w' A' := fun g y hg => by
  obtain ⟨vs, h1, h2⟩ := h g y hg
  exact ⟨vs, h1.move hk, fun j x hj => hk _ _ _ (h2 j x hj).1 (h2 j x hj).2⟩

structure SimH (w : World) (F : Avoid) (m : Nat → Reg) (H : Nat → AObj) : Prop where
  obj : ∀ id, ObjOk w (St.av F m H) m H id
  disj : ∀ i j b o, i ≠ j → OwnBy m H i b o → OwnBy m H j b o → False
  far : ∀ b o, F b o → b < w.heap.size ∧ ¬ Own m H b o
  glob : GlobOk w (St.av F m H)

structure Sim (w : World) (F : Avoid) (m : Nat → Reg) (s : St) (tmps : Array Value) : Prop where
  size : tmps.size = s.n
  tmp : ∀ i, RepV w (St.av F m s.H) m s.H (tmps.getD i undef) (s.T i)
  heap : SimH w F m s.H

/-- From one place of the walk to another one. -/
structure Ev (w : World) (m : Nat → Reg) (H : Nat → AObj) (w' : World) (m' : Nat → Reg) (H' : Nat → AObj) : Prop where
  fr : Fr (Own m H) w w'
  le : ∀ b o, b < w.heap.size → Own m' H' b o → Own m H b o
  hs : ∀ id, 1000 ≤ id → HOk (H id) (m id) (H' id) (m' id)

theorem Ev.refl (w : World) (m : Nat → Reg) (H : Nat → AObj) : Ev w m H w m H := ⟨Fr.refl _ _, fun _ _ _ h => h, fun _ _ => HOk.refl _ _⟩
theorem Ev.trans {w w1 w2 : World} {m m1 m2 : Nat → Reg} {H H1 H2 : Nat → AObj} (h : Ev w m H w1 m1 H1) (h' : Ev w1 m1 H1 w2 m2 H2) : Ev w m H w2 m2 H2 :=
  ⟨h.fr.trans h'.fr h.le, fun b o hb ho => h.le b o hb (h'.le b o (Nat.lt_of_lt_of_le hb h.fr.size) ho), fun id hi => (h.hs id hi).trans (h'.hs id hi)⟩
theorem Ev.of_fr {w w' : World} {m : Nat → Reg} {H : Nat → AObj} (h : Fr (Own m H) w w') : Ev w m H w' m H := ⟨h, fun _ _ _ h => h, fun _ _ => HOk.refl _ _⟩

theorem Ev.keeps {w w' : World} {m m' : Nat → Reg} {H H' : Nat → AObj} (F : Avoid) (h : Ev w m H w' m' H') : Keeps w w' (St.av F m H) (St.av F m' H') := by
  intro b o y hc hn
  have hlt : b < w.heap.size := block_lt_of_cell hc
  refine ⟨h.fr.cell hc fun ho => hn (.inr ho), fun ha => ?_⟩
  rcases ha with ha | ha
  · exact hn (.inl ha)
  · exact hn (.inr (h.le b o hlt ha))

/-- The general step: the temporaries stay. -/
theorem Sim.step {w w' : World} {F : Avoid} {m m' : Nat → Reg} {s : St} {H' : Nat → AObj} {tmps : Array Value} (h : Sim w F m s tmps) (N : Nat → Prop)
    (hk : Keeps w w' (St.av F m s.H) (St.av F m' H')) (hN : ∀ id, N id → noRef s.T s.H id) (hh : ∀ id, ¬ N id → HOk (s.H id) (m id) (H' id) (m' id))
    (hH : SimH w' F m' H') : Sim w' F m' { s with H := H' } tmps := by
  refine ⟨h.size, fun i => (h.tmp i).move hk fun id hi => hh id fun hn => (hN id hn).1 i hi, hH⟩

theorem RepV.undef_any {w : World} {A : Avoid} {m : Nat → Reg} {H : Nat → AObj} (n : Nat) : RepV w A m H undef (.any n) := .any

theorem getD_put {tmps : Array Value} {d : Nat} {v x : Value} (i : Nat) (hd : d < tmps.size) : (tmps.setIfInBounds d v).getD i x = if i = d then v else tmps.getD i x := by
  by_cases h : i = d
  · subst h; simp [Array.getD, hd]
  · rw [if_neg h, Array.getD_eq_getD_getElem?, Array.getD_eq_getD_getElem?, Array.getElem?_setIfInBounds_ne (Ne.symm h)]

def dstOk (s : St) (d : Option Tmp) : Prop := match d with | some d => d < s.n | none => True

theorem Sim.put {w : World} {F : Avoid} {m : Nat → Reg} {s : St} {a : Act} (h : Sim w F m s a.tmps) {d : Option Tmp} (hd : dstOk s d) {x : Value} {v : AV}
    (hv : RepV w (St.av F m s.H) m s.H x v) : Sim w F m (s.put d v) (a.put d x).tmps := by
  cases d with
  | none => exact h
  | some d =>
    have hd' : d < a.tmps.size := by rw [h.size]; exact hd
    refine ⟨by simp [Act.put, h.size, St.put], fun i => ?_, h.heap⟩
    simp only [Act.put, St.put, upd]
    rw [getD_put i hd']
    split
    · exact hv
    · exact h.tmp i

theorem Sim.eval {w : World} {F : Avoid} {m : Nat → Reg} {s : St} {a : Act} (h : Sim w F m s a.tmps) (x : Operand) : RepV w (St.av F m s.H) m s.H (a.eval x) (s.ev x) := by
  cases x with
  | tmp t => exact h.tmp t
  | const v =>
    simp only [Act.eval, St.ev]
    split
    · rename_i hv
      exact .one (.p (.v hv)) rfl
    · exact .any
  | global g =>
    simp only [Act.eval, St.ev]
    cases hg : lkG Globs.G g with
    | none => exact .one (.p (.v rfl)) rfl
    | some y =>
      obtain ⟨vs, h1, h2⟩ := h.heap.glob g y hg
      exact .one (.pp h1 h2) rfl
  | func f => exact .one (.p (.v rfl)) rfl
end Go.Av
end

section
/- Abstract values: the four things that a step does to memory: a new variable, a store, a slice's growth in place or to a new place. -/
namespace Go.Av
open Go
set_option linter.unusedVariables false
set_option linter.unusedSimpArgs false
set_option linter.unusedSectionVars false
variable [Globs]

section
variable {w w' : World} {F : Avoid} {m m' : Nat → Reg} {H H' : Nat → AObj}

theorem ObjOk.move {A A' O : Avoid} {id : Nat} (h : ObjOk w A m H id) (hm : m' id = m id) (hH : H' id = H id) (fr : Fr O w w') (hO : ∀ b o, OwnBy m H id b o → ¬ O b o)
    (hk : Keeps w w' A A') (hh : ∀ e c, H id = .row e c → ∀ j ∈ c.refs, HOk (H j) (m j) (H' j) (m' j)) : ObjOk w' A' m' H' id := by
  unfold ObjOk at h ⊢
  rw [hH, hm]
  cases ho : H id with
  | dead => trivial
  | tail n =>
    simp only [ho] at h ⊢
    refine ⟨h.1, fun hlt => ?_⟩
    obtain ⟨cs, e, h1, h2⟩ := h.2 hlt
    obtain ⟨cs', h3, h4, _⟩ := fr.cells _ _ _ _ h1
    exact ⟨cs', e, h3, by omega⟩
  | row e c =>
    simp only [ho] at h ⊢
    obtain ⟨cs, vs, h1, h2, h3, h4, h5⟩ := h
    obtain ⟨cs', h6, h7, h8⟩ := fr.cells _ _ _ _ h1
    refine ⟨cs', vs, h6, h2, h3, ?_, h5.move hk (hh e c ho)⟩
    refine Eq.trans ?_ h4
    apply List.ext_getElem?
    intro i
    simp only [List.getElem?_take]
    split
    · rename_i hi
      have := h8 i (hO _ _ ⟨by simp [ho], rfl, by omega, by omega⟩)
      simpa using this
    · rfl

/-- A step that turns nothing of what was there and owns nothing new. -/
theorem SimH.grow {O : Avoid} (h : SimH w F m H) (fr : Fr (fun _ _ => False) w w') : SimH w' F m H := by
  have hk : Keeps w w' (St.av F m H) (St.av F m H) := fun b o y hc hn => ⟨fr.cell hc (fun h => h), hn⟩
  exact ⟨fun id => (h.obj id).move rfl rfl fr (fun _ _ _ h => h) hk (fun _ _ _ _ _ => HOk.refl _ _), h.disj, fun b o hf => ⟨Nat.lt_of_lt_of_le (h.far b o hf).1 fr.size, (h.far b o hf).2⟩, h.glob.move hk⟩
theorem Sim.grow {s : St} {tmps : Array Value} (h : Sim w F m s tmps) (fr : Fr (fun _ _ => False) w w') : Sim w' F m s tmps := by
  have hk : Keeps w w' (St.av F m s.H) (St.av F m s.H) := fun b o y hc hn => ⟨fr.cell hc (fun h => h), hn⟩
  exact ⟨h.size, fun i => (h.tmp i).move hk fun _ _ => HOk.refl _ _, h.heap.grow (O := fun _ _ => False) fr⟩

/-- Things are let go. -/
theorem SimH.drop (h : SimH w F m H) (hd : ∀ id, H' id = H id ∨ H' id = .dead) : SimH w F m H' := by
  have ow : ∀ id b o, OwnBy m H' id b o → OwnBy m H id b o := fun id b o ho => by
    rcases hd id with e | e
    · exact ⟨by rw [← e]; exact ho.1, ho.2⟩
    · exact absurd e ho.1
  have hk : Keeps w w (St.av F m H) (St.av F m H') := Keeps.less fun b o ha => by
    rcases ha with ha | ⟨id, ha⟩
    · exact .inl ha
    · exact .inr ⟨id, ow _ _ _ ha⟩
  have hh : ∀ id, HOk (H id) (m id) (H' id) (m id) := fun id => by
    rcases hd id with e | e <;> rw [e]
    · exact HOk.refl _ _
    · exact HOk.dead _ _ _
  refine ⟨fun id => ?_, fun i j b o hij h1 h2 => h.disj i j b o hij (ow _ _ _ h1) (ow _ _ _ h2), fun b o hf => ⟨(h.far b o hf).1, fun ⟨id, ho⟩ => (h.far b o hf).2 ⟨id, ow _ _ _ ho⟩⟩, h.glob.move hk⟩
  rcases hd id with e | e
  · exact (h.obj id).move rfl e (Fr.refl (fun _ _ => False) w) (fun _ _ _ h => h) hk fun _ _ _ j _ => hh j
  · unfold ObjOk; rw [e]; trivial

theorem SimH.own_lt (h : SimH w F m H) {j b o : Nat} (ho : OwnBy m H j b o) : b < w.heap.size := by
  have := h.obj j
  unfold ObjOk at this
  obtain ⟨h1, h2, h3, h4⟩ := ho
  cases hj : H j with
  | dead => exact absurd hj h1
  | row e c =>
    simp only [hj] at this
    obtain ⟨cs, vs, h5, _⟩ := this
    rw [h2] at h5
    exact (Array.getElem?_eq_some_iff.1 h5).1
  | tail n =>
    simp only [hj] at this
    obtain ⟨cs, e, h5, _⟩ := this.2 (by omega)
    rw [h2] at h5
    exact (Array.getElem?_eq_some_iff.1 h5).1

theorem ownBy_upd_ne {id j b o : Nat} {r : Reg} {x : AObj} (hj : j ≠ id) : OwnBy (upd m id r) (upd H id x) j b o ↔ OwnBy m H j b o := by
  unfold OwnBy
  rw [upd_ne _ _ hj, upd_ne _ _ hj]

/-- A new variable of the function's own. -/
theorem SimH.newIn (h : SimH w F m H) {T : Nat → AV} {id : Nat} (hd : H id = .dead) (hid : id < 1000) (hn : noRef T H id) {vs : List Value} {e : TypeId} {c : AV} (hc : RepC w (St.av F m H) m H vs c) (hcr : id ∉ c.refs) (cs : Array Value) (hcs : cs.toList.take vs.length = vs) :
    SimH (w.alloc (.cells cs e)) F (upd m id ⟨w.heap.size, 0, vs.length⟩) (upd H id (.row e c)) ∧
    Ev w m H (w.alloc (.cells cs e)) (upd m id ⟨w.heap.size, 0, vs.length⟩) (upd H id (.row e c)) ∧
    ∀ j, j ≠ id → HOk (H j) (m j) (upd H id (.row e c) j) (upd m id ⟨w.heap.size, 0, vs.length⟩ j) := by
  have fr : Fr (fun _ _ => False) w (w.alloc (.cells cs e)) := Fr.alloc _ _
  have hh : ∀ j, j ≠ id → HOk (H j) (m j) (upd H id (.row e c) j) (upd m id ⟨w.heap.size, 0, vs.length⟩ j) := fun j hj => by rw [upd_ne _ _ hj, upd_ne _ _ hj]; exact HOk.refl _ _
  have own_id : ∀ b o, OwnBy (upd m id ⟨w.heap.size, 0, vs.length⟩) (upd H id (.row e c)) id b o → b = w.heap.size := fun b o ho => by
    have := ho.2.1
    rw [upd_same] at this
    exact this.symm
  have ev : Ev w m H (w.alloc (.cells cs e)) (upd m id ⟨w.heap.size, 0, vs.length⟩) (upd H id (.row e c)) := by
    refine ⟨Fr.alloc _ _, fun b o hb ⟨j, ho⟩ => ?_, fun j hj => hh j (by omega)⟩
    by_cases hji : j = id
    · subst hji
      have := own_id b o ho
      omega
    · exact ⟨j, (ownBy_upd_ne hji).1 ho⟩
  have hk := ev.keeps F
  refine ⟨⟨fun j => ?_, fun i j b o hij h1 h2 => ?_, fun b o hf => ⟨?_, fun ⟨j, ho⟩ => ?_⟩, h.glob.move hk⟩, ev, hh⟩
  · by_cases hji : j = id
    · subst hji
      unfold ObjOk
      rw [upd_same, upd_same]
      refine ⟨cs, vs, heap_alloc_new w _, rfl, rfl, hcs, hc.move hk fun i hi => hh i fun e => hcr (e ▸ hi)⟩
    · refine (h.obj j).move (upd_ne _ _ hji) (upd_ne _ _ hji) fr (fun _ _ _ h => h) hk fun e' c' hj i hi => hh i fun e2 => ?_
      exact hn.2 j e' c' hj (e2 ▸ hi)
  · by_cases hi : i = id
    · subst hi
      have e1 := own_id b o h1
      have := h.own_lt ((ownBy_upd_ne (Ne.symm hij)).1 h2)
      omega
    · by_cases hj : j = id
      · subst hj
        have e1 := own_id b o h2
        have := h.own_lt ((ownBy_upd_ne hi).1 h1)
        omega
      · exact h.disj i j b o hij ((ownBy_upd_ne hi).1 h1) ((ownBy_upd_ne hj).1 h2)
  · have := (h.far b o hf).1
    simp
    omega
  · by_cases hji : j = id
    · subst hji
      have e1 := own_id b o ho
      have := (h.far b o hf).1
      omega
    · exact (h.far b o hf).2 ⟨j, (ownBy_upd_ne hji).1 ho⟩

theorem SimH.new (h : SimH w F m H) {T : Nat → AV} {id : Nat} (hd : H id = .dead) (hid : id < 1000) (hn : noRef T H id) {vs : List Value} {e : TypeId} {c : AV} (hc : RepC w (St.av F m H) m H vs c) (hcr : id ∉ c.refs) :
    SimH (w.alloc (.cells vs.toArray e)) F (upd m id ⟨w.heap.size, 0, vs.length⟩) (upd H id (.row e c)) ∧
    Ev w m H (w.alloc (.cells vs.toArray e)) (upd m id ⟨w.heap.size, 0, vs.length⟩) (upd H id (.row e c)) ∧
    ∀ j, j ≠ id → HOk (H j) (m j) (upd H id (.row e c) j) (upd m id ⟨w.heap.size, 0, vs.length⟩ j) :=
  h.newIn hd hid hn hc hcr vs.toArray (by simp)

theorem Sim.new {s : St} {tmps : Array Value} (h : Sim w F m s tmps) {id : Nat} (hd : s.H id = .dead) (hid : id < 1000) (hn : noRef s.T s.H id) {vs : List Value} {e : TypeId} {c : AV} (hc : RepC w (St.av F m s.H) m s.H vs c) (hcr : id ∉ c.refs) :
    Sim (w.alloc (.cells vs.toArray e)) F (upd m id ⟨w.heap.size, 0, vs.length⟩) { s with H := upd s.H id (.row e c) } tmps ∧
    Ev w m s.H (w.alloc (.cells vs.toArray e)) (upd m id ⟨w.heap.size, 0, vs.length⟩) (upd s.H id (.row e c)) := by
  obtain ⟨h1, h2, h3⟩ := h.heap.new (T := s.T) hd hid hn hc hcr
  exact ⟨h.step (fun j => j = id) (h2.keeps F) (fun j hj => hj ▸ hn) h3 h1, h2⟩

/-- A store into a variable of its own. -/
theorem SimH.set (h : SimH w F m H) {id : Nat} {e : TypeId} {c c' : AV} (hid : H id = .row e c) {cs cs' : Array Value} (hg : w.heap[(m id).b]? = some (.cells cs e (0, 0)))
    (hs : cs'.size = cs.size) (ho : ∀ o, (m id).hi ≤ o → cs'[o]? = cs[o]?) (hsh : c'.shape = c.shape) (hc : RepC w (St.av F m H) m H (cs'.toList.take (m id).hi) c') :
    SimH (w.setRow (m id).b cs') F m (upd H id (.row e c')) ∧ Ev w m H (w.setRow (m id).b cs') m (upd H id (.row e c')) ∧
    ∀ j, HOk (H j) (m j) (upd H id (.row e c') j) (m j) := by
  have hob := h.obj id
  unfold ObjOk at hob
  simp only [hid] at hob
  obtain ⟨cs0, vs0, g1, g2, g3, g4, g5⟩ := hob
  rw [hg] at g1
  have hcs : cs0 = cs := by injection g1 with g1; injection g1 with g1; exact g1.symm
  subst hcs
  have hlen : vs0.length ≤ cs0.size := by have := congrArg List.length g4; simp at this; omega
  have hh : ∀ j, HOk (H j) (m j) (upd H id (.row e c') j) (m j) := fun j => by
    by_cases hj : j = id
    · subst hj
      rw [upd_same, hid]
      exact ⟨c, rfl, hsh, rfl⟩
    · rw [upd_ne _ _ hj]; exact HOk.refl _ _
  have ow : ∀ j b o, OwnBy m (upd H id (.row e c')) j b o → OwnBy m H j b o := fun j b o hj => by
    refine ⟨?_, hj.2⟩
    by_cases hji : j = id
    · subst hji; simp [hid]
    · have := hj.1; rwa [upd_ne _ _ hji] at this
  have fr : Fr (OwnBy m H id) w (w.setRow (m id).b cs') := by
    refine ⟨rfl, rfl, rfl, by simp, fun b x e' f hx => ?_, fun b x hx hy _ => ?_⟩
    · by_cases hb : b = (m id).b
      · subst hb
        rw [hg] at hx
        injection hx with hx
        injection hx with hx1 hx2 hx3
        subst hx1; subst hx2; subst hx3
        refine ⟨cs', setRow_heap w _ _ _ _ _ hg, hs, fun o hn => ho o ?_⟩
        rcases Nat.lt_or_ge o (m id).hi with h1 | h1
        · exact absurd ⟨by simp [hid], rfl, by omega, h1⟩ hn
        · exact h1
      · exact ⟨x, (setRow_other w _ b _ hb).trans hx, rfl, fun _ _ => rfl⟩
    · have hb : b ≠ (m id).b := fun e' => by subst e'; rw [hg] at hx; injection hx with hx; exact hy _ _ _ hx.symm
      exact (setRow_other w _ b _ hb).trans hx
  have ev : Ev w m H (w.setRow (m id).b cs') m (upd H id (.row e c')) :=
    ⟨fr.mono fun _ _ _ hj => ⟨id, hj⟩, fun b o _ ⟨j, hj⟩ => ⟨j, ow _ _ _ hj⟩, fun j _ => hh j⟩
  have hk := ev.keeps F
  refine ⟨⟨fun j => ?_, fun i j b o hij h1 h2 => h.disj i j b o hij (ow _ _ _ h1) (ow _ _ _ h2), fun b o hf => ⟨by simpa using (h.far b o hf).1, fun ⟨j, hj⟩ => (h.far b o hf).2 ⟨j, ow _ _ _ hj⟩⟩, h.glob.move hk⟩, ev, hh⟩
  by_cases hj : j = id
  · subst hj
    unfold ObjOk
    rw [upd_same]
    have hlt : (cs'.toList.take (m j).hi).length = (m j).hi := by simp; omega
    exact ⟨cs', cs'.toList.take (m j).hi, setRow_heap w _ _ _ _ _ hg, g2, hlt.symm, by rw [hlt], hc.move hk fun i _ => hh i⟩
  · exact (h.obj j).move rfl (upd_ne _ _ hj) fr (fun b o h1 h2 => h.disj j id b o hj h1 h2) hk fun _ _ _ i _ => hh i

theorem Sim.set {s : St} {tmps : Array Value} (h : Sim w F m s tmps) {id : Nat} {e : TypeId} {c c' : AV} (hid : s.H id = .row e c) {cs cs' : Array Value} (hg : w.heap[(m id).b]? = some (.cells cs e (0, 0)))
    (hs : cs'.size = cs.size) (ho : ∀ o, (m id).hi ≤ o → cs'[o]? = cs[o]?) (hsh : c'.shape = c.shape) (hc : RepC w (St.av F m s.H) m s.H (cs'.toList.take (m id).hi) c') :
    Sim (w.setRow (m id).b cs') F m { s with H := upd s.H id (.row e c') } tmps ∧ Ev w m s.H (w.setRow (m id).b cs') m (upd s.H id (.row e c')) := by
  obtain ⟨h1, h2, h3⟩ := h.heap.set hid hg hs ho hsh hc
  exact ⟨h.step (fun _ => False) (h2.keeps F) (fun _ hf => hf.elim) (fun j _ => h3 j) h1, h2⟩

/-- What stands in a variable of its own. -/
theorem SimH.row (h : SimH w F m H) {id : Nat} {e : TypeId} {c : AV} (hid : H id = .row e c) :
    ∃ cs vs, w.heap[(m id).b]? = some (.cells cs e (0, 0)) ∧ (m id).lo = 0 ∧ (m id).hi = vs.length ∧ cs.toList.take vs.length = vs ∧ RepC w (St.av F m H) m H vs c := by
  have hob := h.obj id
  unfold ObjOk at hob
  simpa only [hid] using hob
end
end Go.Av
end

section
/- Abstract values: what one operation does to a state, and that the model's operation does it. -/
namespace Go.Av
open Go
set_option linter.unusedVariables false
set_option linter.unusedSimpArgs false
set_option linter.unusedSectionVars false
variable [Globs]

/-! ### facts on types, each a closed equation of a program -/
def isAggD : TypeDesc → Bool
  | .struct _ => true
  | .array _ _ => true
  | _ => false
def ldOf (P : Program) (t : TypeId) : Option (Bool × Nat) :=
  match P.underlying t, P.info? t with
  | some d, some i => some (isAggD d, i.size)
  | _, _ => none
def fldOf (P : Program) (t : TypeId) (f : Nat) : Option (Nat × TypeId) :=
  match P.underlying t with
  | some (.struct fs) => (fs[f]?).map fun x => (x.offset, x.type)
  | _ => none
def elOf (P : Program) (t : TypeId) : Option TypeId :=
  match P.underlying t with
  | some (.slice e) => some e
  | _ => none
def arOf (P : Program) (t : TypeId) : Option (Nat × TypeId) :=
  match P.underlying t with
  | some (.array n e) => some (n, e)
  | _ => none
def ptOf (P : Program) (t : TypeId) : Option TypeId :=
  match P.underlying t with
  | some (.pointer e) => some e
  | _ => none
def ikOf (P : Program) (t : TypeId) : Option IntKind :=
  match P.underlying t with
  | some (.int k) => some k
  | _ => none
def isStr (P : Program) (t : TypeId) : Bool :=
  match P.underlying t with
  | some .string => true
  | _ => false
def isIfc (P : Program) (t : TypeId) : Bool :=
  match P.underlying t with
  | some (.interface _) => true
  | none => true
  | _ => false

theorem ldOf_run {P : Program} {t : TypeId} {a : Bool} {n : Nat} (h : ldOf P t = some (a, n)) (w : World) : (isAgg t).run P w = .ok a w ∧ (sizeOf t).run P w = .ok n w := by
  unfold ldOf at h
  cases hu : P.underlying t with
  | none => simp [hu] at h
  | some d =>
    cases hi : P.info? t with
    | none => simp [hu, hi] at h
    | some i =>
      simp [hu, hi] at h
      obtain ⟨rfl, rfl⟩ := h
      refine ⟨?_, by simp [sizeOf, typeInfo, hi]⟩
      simp only [isAgg, Sem.run_bind, run_underlying hu, Result.andThen_ok]
      cases d <;> rfl

structure Eff where
  v : AV
  touch : List (Nat × AObj) := []
  mod : List (Nat × AObj) := []
  new : List Nat := []

def St.app (s : St) (o : Oper) (e : Eff) : St := { (s.put o.dst e.v) with H := mods s.H e.mod }

/-- From every world that is as the state says the operation comes to one that is as the state behind it says. -/
def Does (P : Program) (o : Oper) (s : St) (e : Eff) : Prop :=
  ∀ (w : World) (F : Avoid) (m : Nat → Reg) (a : Act) (K : Act → World → Prop) (Q : Exit → Act → World → Prop), Sim w F m s a.tmps →
    (∀ x w' m', Sim w' F m' (s.app o e) (a.put o.dst x).tmps → Ev w m s.H w' m' (mods s.H e.mod) → K (a.put o.dst x) w') → o.wp P a w K Q

theorem Does.value {P : Program} {o : Oper} {s : St} {e : Eff} (hd : dstOk s o.dst)
    (h : ∀ (w : World) (F : Avoid) (m : Nat → Reg) (a : Act), Sim w F m s a.tmps → ∃ x w' m', (execOp a.eval o).run P w = .ok (.value x) w' ∧
      Sim w' F m' { s with H := mods s.H e.mod } a.tmps ∧ RepV w' (St.av F m' (mods s.H e.mod)) m' (mods s.H e.mod) x e.v ∧ Ev w m s.H w' m' (mods s.H e.mod)) : Does P o s e := by
  intro w F m a K Q hs hK
  obtain ⟨x, w', m', hr, h1, h2, h3⟩ := h w F m a hs
  unfold Oper.wp
  rw [hr, Oper.upon_value]
  refine hK x w' m' ?_ h3
  have := h1.put (a := a) (d := o.dst) (hd) h2
  have e1 : St.put { s with H := mods s.H e.mod } o.dst e.v = s.app o e := by cases ho : o.dst <;> simp [St.put, St.app, ho]
  rwa [e1] at this

theorem Does.skip {P : Program} {o : Oper} {s : St} {e : Eff} (hd : o.dst = none)
    (h : ∀ (w : World) (F : Avoid) (m : Nat → Reg) (a : Act), Sim w F m s a.tmps → ∃ w' m', (execOp a.eval o).run P w = .ok .skip w' ∧
      Sim w' F m' { s with H := mods s.H e.mod } a.tmps ∧ Ev w m s.H w' m' (mods s.H e.mod)) : Does P o s e := by
  intro w F m a K Q hs hK
  obtain ⟨w', m', hr, h1, h3⟩ := h w F m a hs
  unfold Oper.wp
  rw [hr, Oper.upon_skip]
  refine hK undef w' m' ?_ h3
  rw [hd]
  simpa [St.app, hd, St.put, Act.put] using h1

/-- An operation that reads alone (the world may draw or lay what nobody writes). -/
theorem Does.read {P : Program} {o : Oper} {s : St} {v : AV} {tc : List (Nat × AObj)} (hd : dstOk s o.dst)
    (h : ∀ (w : World) (F : Avoid) (m : Nat → Reg) (a : Act), Sim w F m s a.tmps → ∃ x w', (execOp a.eval o).run P w = .ok (.value x) w' ∧ Fr (fun _ _ => False) w w' ∧ RepV w' (St.av F m s.H) m s.H x v) :
    Does P o s { v, touch := tc } :=
  Does.value hd fun w F m a hs => by
    obtain ⟨x, w', h1, h2, h3⟩ := h w F m a hs
    exact ⟨x, w', m, h1, hs.grow h2, h3, Ev.of_fr (h2.mono fun _ _ _ h => h.elim)⟩
theorem Does.pure {P : Program} {o : Oper} {s : St} {v : AV} {tc : List (Nat × AObj)} (hd : dstOk s o.dst)
    (h : ∀ (w : World) (F : Avoid) (m : Nat → Reg) (a : Act), Sim w F m s a.tmps → ∃ x, (execOp a.eval o).run P w = .ok (.value x) w ∧ RepV w (St.av F m s.H) m s.H x v) :
    Does P o s { v, touch := tc } :=
  Does.read hd fun w F m a hs => let ⟨x, h1, h2⟩ := h w F m a hs; ⟨x, w, h1, Fr.refl _ _, h2⟩

/-! ### a place at the end of a path -/
theorem Shape.off_append : ∀ (path : List Nat) {s : Shape} {i : Nat}, True → ∀ {x : AV} {c : AV}, c.shape = s → c.get? path = some x → Shape.off (path ++ [i]) s = Shape.off path s + Shape.off [i] x.shape := by
  intro path
  induction path with
  | nil =>
    intro s i _ x c hc hg
    simp [AV.get?] at hg
    subst hg; subst hc
    simp [Shape.off]
  | cons j r ih =>
    intro s i _ x c hc hg
    subst hc
    cases c with
    | st fs =>
      simp only [AV.get?] at hg
      split at hg
      · rename_i f hf
        have := ih (i := i) trivial (c := f) rfl hg
        have hsh : (AV.shapeL fs)[j]? = some f.shape := by rw [AV.shapeL_map]; simp [hf]
        simp [AV.shape, Shape.off, List.getD_eq_getElem?_getD, hsh, this, Nat.add_assoc]
      · cases hg
    | p y =>
      simp only [AV.get?] at hg
      cases hgy : PV.get? (j :: r) y with
      | none => simp [hgy] at hg
      | some z =>
        simp [hgy] at hg
        subst hg
        cases y with
        | st fs =>
          simp only [PV.get?] at hgy
          split at hgy
          · rename_i f hf
            have := ih (i := i) trivial (x := .p z) (c := .p f) rfl (by
              cases r with
              | nil => simp only [PV.get?] at hgy; simp at hgy; simp [AV.get?, hgy]
              | cons => simp [AV.get?, hgy])
            have hsh : (PV.shapeL fs)[j]? = some f.shape := by rw [PV.shapeL_map]; simp [hf]
            simp only [AV.shape] at this
            simp [AV.shape, PV.shape, Shape.off, List.getD_eq_getElem?_getD, hsh, this, Nat.add_assoc]
          · cases hgy
        | ints k n l =>
          simp only [PV.get?] at hgy
          split at hgy
          · simp at hgy; subst hgy; simp [AV.shape, PV.shape, Shape.off]
          · cases hgy
        | v x => simp [PV.get?] at hgy
        | sl k es => simp [PV.get?] at hgy
    | any n => simp [AV.get?] at hg
    | ptr id path => simp [AV.get?] at hg
    | pp x => simp [AV.get?] at hg
    | slt tok k es => simp [AV.get?] at hg
    | osl id path k n => simp [AV.get?] at hg
    | oss id path st k n => simp [AV.get?] at hg
    | fn f caps => simp [AV.get?] at hg
    | ifc t x => simp [AV.get?] at hg
    | tup vs => simp [AV.get?] at hg

def AV.cellish : AV → Bool
  | .any _ => false
  | .tup _ => false
  | _ => true

section
variable {w : World} {A : Avoid} {m : Nat → Reg} {H : Nat → AObj}
theorem RepV.cells {x : Value} {a : AV} (h : RepV w A m H x a) (hc : a.cellish = true) : RepC w A m H x.cells.toList a := by
  cases h with
  | any => simp [AV.cellish] at hc
  | one h hs =>
    have h1 := h.one x (by simp)
    have : x.cells.toList = [x] := by cases x <;> simp_all [Value.cells, Value.oneCell']
    rwa [this]
  | agg h hs => simpa [Value.cells] using h
  | tup _ _ => simp [AV.cellish] at hc
theorem RepV.single {x : Value} {a : AV} (h : RepV w A m H x a) (hc : a.cellish = true) (hs : a.isAgg = false) : RepC w A m H [x] a := by
  cases h with
  | any => simp [AV.cellish] at hc
  | one h _ => exact h
  | agg h hs' => rw [hs] at hs'; cases hs'
  | tup _ _ => simp [AV.cellish] at hc
theorem RepP.v_inv {vs : List Value} {y : Value} (h : RepP w A vs (.v y)) : vs = [y] := by cases h; rfl
theorem RepC.p_inv {vs : List Value} {y : PV} (h : RepC w A m H vs (.p y)) : RepP w A vs y := by cases h; assumption
theorem RepV.pv {x y : Value} (h : RepV w A m H x (.p (.v y))) : x = y := by
  cases h with
  | one h hs =>
    have := h.p_inv.v_inv
    injection this
  | agg h hs => simp [AV.isAgg] at hs
theorem RepV.of_v {y : Value} (h : y.oneCell' = true) : RepV w A m H y (.p (.v y)) := .one (.p (.v h)) rfl
/-- Cells that stand for a tree, loaded as a type loads them. -/
theorem RepV.of_cells {vs : List Value} {a : AV} (h : RepC w A m H vs a) (ag : Bool) (hg : ag = a.isAgg) (h1 : ag = false → vs.length = 1) :
    RepV w A m H (if ag then .agg vs.toArray else vs.headD undef) a := by
  cases ag with
  | true => exact .agg h hg.symm
  | false =>
    obtain ⟨x, rfl⟩ := List.length_eq_one_iff.1 (h1 rfl)
    exact .one h hg.symm
end

theorem isAgg_size {a : AV} (h : a.isAgg = false) (hn : ∀ n, a = .any n → n = 1) : a.size = 1 := by
  cases a with
  | any n => exact hn n rfl
  | p x => cases x <;> simp_all [AV.isAgg, AV.size, PV.size]
  | st fs => simp [AV.isAgg] at h
  | _ => rfl

/-- A load: the cells at a place stand for a tree. -/
theorem run_loadVar_cells {P : Program} {w : World} {t : TypeId} {ag : Bool} {n : Nat} (h : ldOf P t = some (ag, n)) {b o : Nat} {vs : List Value} (hl : vs.length = n)
    (hc : ∀ j x, vs[j]? = some x → w.cell? ⟨b, o + j, none⟩ = some x) (h1 : ag = false → n = 1) :
    (loadVar t ⟨b, o, none⟩).run P w = .ok (if ag then .agg vs.toArray else vs.headD undef) w := by
  obtain ⟨ha, hz⟩ := ldOf_run h w
  unfold loadVar
  simp only [Sem.run_bind, ha, Result.andThen_ok]
  cases ag with
  | true =>
    simp only [if_true, Sem.run_bind, hz, Result.andThen_ok]
    have := run_loadCells_list (P := P) (w := w) ⟨b, o, none⟩ vs (fun j v hj => by rw [Addr.add_lit]; exact hc j v hj)
    rw [← hl, this]
    rfl
  | false =>
    obtain ⟨x, rfl⟩ := List.length_eq_one_iff.1 (hl.trans (h1 rfl))
    have := hc 0 x rfl
    simp only [Nat.add_zero] at this
    simp [this]
end Go.Av
end

section
/- Abstract values: the effects of the operations, as one definition; no memory in it. -/
namespace Go.Av
open Go
set_option linter.unusedVariables false
set_option linter.unusedSimpArgs false
set_option linter.unusedSectionVars false
variable [Globs]

mutual
def PV.flat : PV → List Value
  | .v x => [x]
  | .ints k _ l => l.map (Value.int k)
  | .st fs => PV.flatL fs
  | .sl _ _ => [.slice none 0 0]
def PV.flatL : List PV → List Value
  | [] => []
  | f :: fs => PV.flat f ++ PV.flatL fs
end
mutual
def PV.plain : PV → Bool
  | .v x => x.oneCell'
  | .ints _ n l => l.length == n
  | .st fs => PV.plainL fs
  | .sl _ es => es.isEmpty
def PV.plainL : List PV → Bool
  | [] => true
  | f :: fs => PV.plain f && PV.plainL fs
end
mutual
theorem RepP.flat {w : World} {A : Avoid} : ∀ {x : PV}, x.plain = true → RepP w A x.flat x
  | .v x, h => .v (by simpa [PV.plain] using h)
  | .ints k n l, h => .ints (by simpa [PV.plain] using h)
  | .st fs, h => RepP.flatL (by simpa [PV.plain] using h)
  | .sl k es, h => by
    have : es = [] := by simpa [PV.plain] using h
    subst this
    exact .sln
theorem RepP.flatL {w : World} {A : Avoid} : ∀ {fs : List PV}, PV.plainL fs = true → RepP w A (PV.flatL fs) (.st fs)
  | [], _ => .stn
  | f :: fs, h => by
    simp only [PV.plainL, Bool.and_eq_true] at h
    exact .stc (RepP.flat h.1) (RepP.flatL h.2)
end

def zeroGo (P : Program) : Nat → TypeId → Option PV
  | 0, _ => none
  | n + 1, t => match P.underlying t with
    | some (.int k) => some (.v (.int k 0))
    | some .bool => some (.v (.bool false))
    | some .string => some (.v (.string ⟨#[]⟩))
    | some (.pointer _) => some (.v (.pointer none))
    | some (.slice _) => some (.v (.slice none 0 0))
    | some (.map _ _) => some (.v (.map none))
    | some (.func _ _ _) => some (.v .nilFunc)
    | some (.interface _) => some (.v .nilIface)
    | some (.array len e) => match P.underlying e with
      | some (.int k) => some (.ints k len (List.replicate len 0))
      | _ => (zeroGo P n e).map fun z => .st (List.replicate len z)
    | some (.struct fs) => (fs.toList.mapM fun f => zeroGo P n f.type).map .st
    | _ => none
def zeroPV (P : Program) (t : TypeId) : Option PV := zeroGo P 8 t
/-- The type's zero value is this tree's: asked of each type by the kernel. -/
def zeroChk (P : Program) (t : TypeId) : Prop :=
  ∃ z i v, zeroPV P t = some z ∧ P.info? t = some i ∧ i.zero = some v ∧ v.cells.toList = z.flat ∧ z.plain = true

/-- What an operation on two values yields, in every world. -/
def BinRun (P : Program) (op : BinOp) (t : TypeId) (x y : Operand) (X Y : PV) (r : Value) : Prop :=
  r.oneCell' = true ∧ ∀ (w : World) (A : Avoid) (vx vy : Value), (if (AV.p X).isAgg then ∃ vs : List Value, vx = .agg vs.toArray ∧ RepP w A vs X else RepP w A [vx] X) →
    (if (AV.p Y).isAgg then ∃ vs : List Value, vy = .agg vs.toArray ∧ RepP w A vs Y else RepP w A [vy] Y) →
    (do eqGuard op t x y vx vy; binOp op t vx vy : Sem Value).run P w = .ok r w
def UnRun (op : UnOp) (x r : Value) : Prop := r.oneCell' = true ∧ ∀ (P : Program) (w : World), (Op.unary op x).run P w = .ok r w
/-- The elements that lie in a row. -/
def AV.elems : AV → Option (List PV)
  | .p (.ints k _ l) => some (l.map fun x => .v (.int k x))
  | .p (.st es) => some es
  | _ => none
/-- How many elements lie in an array. -/
def AV.cnt : AV → Nat
  | .p (.ints _ n _) => n
  | .p (.st es) => es.length
  | .st fs => fs.length
  | _ => 0
def Shape.uni (k : Nat) : Shape → Prop
  | .arr _ => k = 1
  | .st fs => ∀ f ∈ fs, f.size = k
  | _ => False

/-- What a slice holds, and what is looked at for it. -/
def srcOf (ev : AV) (k : Nat) (xs : List PV) (tc : List (Nat × AObj)) : Prop :=
  match ev with
  | .p (.sl k' es) => k' = k ∧ xs = es ∧ tc = []
  | .slt _ k' es => k' = k ∧ xs = es ∧ tc = []
  | .p (.v (.slice none 0 0)) => xs = [] ∧ tc = []
  | .osl id path k' n => ∃ ty c c', c.get? path = some c' ∧ c'.elems = some xs ∧ k' = k ∧ c'.shape.uni k ∧ xs.length = n ∧ tc = [(id, .row ty c)]
  | _ => False

def bytesOf (P : Program) (e : TypeId) : Option Nat := (P.info? e).map (·.bytes)

/-- A slice that grows by elements: a nil one, or one whose room is its own. -/
def appEff (dst : Option Tmp) (el : TypeId) (ev : AV) (k : Nat) (xs : List PV) (tc : List (Nat × AObj)) (lim : Nat → Prop) (e : Eff) : Prop :=
  match ev with
  | .p (.v (.slice _ 0 0)) => ∃ d, dst = some d ∧ d < 1000 ∧ lim xs.length ∧ (e = ⟨.slt d k xs, tc, [(d, .tail xs.length)], [d]⟩ ∨
      ∃ kd l, xs = (l : List Int).map (fun n => PV.v (.int kd n)) ∧ 0 < l.length ∧ k = 1 ∧ e = ⟨.osl d [] 1 l.length, tc, [(d, .row el (.p (.ints kd l.length l)))], [d]⟩)
  | .slt tok k' es => k' = k ∧ lim (es.length + xs.length) ∧ e = ⟨.slt tok k (es ++ xs), (tok, .tail es.length) :: tc, [(tok, .tail (es.length + xs.length))], []⟩
  | _ => False

mutual
def AV.pview : AV → Option PV
  | .p x => some x
  | .slt _ k es => some (.sl k es)
  | .st fs => (AV.pviewL fs).map .st
  | _ => none
def AV.pviewL : List AV → Option (List PV)
  | [] => some []
  | f :: fs => match AV.pview f, AV.pviewL fs with
    | some x, some xs => some (x :: xs)
    | _, _ => none
end
/-- The second tree says less: of a nil slice that it is empty. -/
inductive PV.leP : PV → PV → Prop
  | refl (x : PV) : PV.leP x x
  | nil (k : Nat) : PV.leP (.v (.slice none 0 0)) (.sl k [])
  | st {fs gs : List PV} (hl : fs.length = gs.length) (h : ∀ (i : Nat) (f g : PV), fs[i]? = some f → gs[i]? = some g → PV.leP f g) : PV.leP (.st fs) (.st gs)
  | sl {k : Nat} {fs gs : List PV} (hl : fs.length = gs.length) (h : ∀ (i : Nat) (f g : PV), fs[i]? = some f → gs[i]? = some g → PV.leP f g) : PV.leP (.sl k fs) (.sl k gs)
/-- The second one says less of the same. -/
def AV.le (a b : AV) : Prop := a = b ∨ (∃ x, a.pview = some x ∧ b = .p x) ∨ (∃ n, b = .any n) ∨ (∃ k, a = .p (.v (.slice none 0 0)) ∧ b = .p (.sl k [])) ∨ (∃ x y, a.pview = some x ∧ PV.leP x y ∧ b = .p y)
def leAll : List AV → List AV → Prop
  | [], [] => True
  | a :: as, b :: bs => AV.le a b ∧ leAll as bs
  | _, _ => False

def hOf (l : List (Nat × AObj)) : Nat → AObj := mods (fun _ => .dead) l

/-- A contract: called with arguments that are as said, owning what is said, a function comes back with what is said. -/
def callable (P : Program) (f : FuncId) : Bool :=
  match P.funcs[f]? with
  | some fn => fn.body.isSome && fn.name != "runtime.NumGoroutine"
  | none => false
def ACalls (P : Program) (f : FuncId) (args : List AV) (hc : List (Nat × AObj)) (r : AV) (hr : List (Nat × AObj)) : Prop :=
  callable P f = true ∧ ∀ (w : World) (F : Avoid) (m : Nat → Reg) (vals : List Value), vals.length = args.length →
    (∀ (i : Nat) (x : Value) (a : AV), vals[i]? = some x → args[i]? = some a → RepV w (St.av F m (hOf hc)) m (hOf hc) x a) → SimH w F m (hOf hc) →
    Calls P f vals.toArray w fun ed w' => ∃ x m', ed = .returned x ∧ RepV w' (St.av F m' (hOf hr)) m' (hOf hr) x r ∧ SimH w' F m' (hOf hr) ∧ Fr (Own m (hOf hc)) w w' ∧
      (∀ b o, b < w.heap.size → Own m' (hOf hr) b o → Own m (hOf hc) b o) ∧ ∀ id, hOf hc id ≠ .dead → HOk (hOf hc id) (m id) (hOf hr id) (m' id)

def idsOf (l : List (Nat × AObj)) : List Nat := l.map (·.1)
def refsIn (l : List (Nat × AObj)) : List Nat := l.flatMap fun p => match p.2 with | .row _ c => c.refs | _ => []

def callEffF (P : Program) (f : FuncId) (args : List AV) (e : Eff) : Prop :=
  ∃ args' hc r hr, ACalls P f args' hc r hr ∧ leAll args args' ∧ (∀ p ∈ hc, p.2 ≠ .dead) ∧ (idsOf hc).Nodup ∧ (idsOf hr).Nodup ∧ (∀ i ∈ r.refs, i ∈ idsOf hr) ∧ (∀ i ∈ refsIn hr, i ∈ idsOf hr) ∧ (∀ i ∈ idsOf hr, i ∈ idsOf hc ∨ i < 1000) ∧
    e = ⟨r, hc, (idsOf hc).map (fun i => (i, .dead)) ++ hr, (idsOf hr).filter fun i => !(idsOf hc).contains i⟩
/-- What a call makes of a state; a call that leaves all that it is lent as it was changes nothing. -/
def callEff (P : Program) (f : FuncId) (args : List AV) (e : Eff) : Prop :=
  callEffF P f args e ∨ ∃ r hc, callEffF P f args ⟨r, hc, (idsOf hc).map (fun i => (i, .dead)) ++ hc, (idsOf hc).filter fun i => !(idsOf hc).contains i⟩ ∧ (idsOf hc).Nodup ∧ e = ⟨r, hc, [], []⟩

/-- Parts laid over a zero value. -/
def setAll : AV → List (Nat × AV) → AV → Prop
  | c, [], c' => c = c'
  | c, (i, x) :: r, c' => ∃ old c1, c.get? [i] = some old ∧ x.shape = old.shape ∧ x.cellish = true ∧ c.set? [i] x = some c1 ∧ setAll c1 r c'
/-- The parts of a type lie as its zero value's do: asked of each type by the kernel. -/
def bldB (P : Program) (t : TypeId) : Bool :=
  match P.underlying t, zeroPV P t with
  | some (.struct fs), some (.st zs) => fs.size == zs.length && (List.range fs.size).all fun i => match fs[i]?, zs[i]? with
    | some x, some g => (match ldOf P x.type with | some (_, n) => n == g.size | none => false) && x.offset == PV.sizeL (zs.take i)
    | _, _ => false
  | some (.array _ el), some (.ints _ _ _) => (match ldOf P el with | some (_, n) => n == 1 | none => false)
  | _, _ => false

/-- What an operation does to a state ('ev': what its operands stand for). -/
def aEff (P : Program) (o : Oper) (ev : Operand → AV) (e : Eff) : Prop :=
  match o.op with
  | .move x => e = { v := ev x }
  | .assign x => e = { v := ev x }
  | .pick c a b => ∃ t, ev c = .p (.v (.bool t)) ∧ e = { v := if t then ev a else ev b }
  | .alloc t => ∃ d z, o.dst = some d ∧ d < 1000 ∧ zeroPV P t = some z ∧ zeroChk P t ∧ e = ⟨.ptr d [], [], [(d, .row t (.p z))], [d]⟩
  | .box t x => ∃ d, o.dst = some d ∧ d < 1000 ∧ (ev x).cellish = true ∧ d ∉ (ev x).refs ∧ e = ⟨.ptr d [], [], [(d, .row t (ev x))], [d]⟩
  | .load t x => match ev x with
    | .ptr id path => ∃ ty c c', c.get? path = some c' ∧ c'.cellish = true ∧ ldOf P t = some (c'.isAgg, c'.size) ∧ e = { v := c', touch := [(id, .row ty c)] }
    | .pp y => ldOf P t = some ((AV.p y).isAgg, y.size) ∧ e = { v := .p y }
    | _ => False
  | .store t x y => match ev x with
    | .ptr id path => ∃ ty c old c' ag, o.dst = none ∧ c.get? path = some old ∧ (ev y).shape = old.shape ∧ (ev y).cellish = true ∧ c.set? path (ev y) = some c' ∧ ldOf P t = some (ag, (ev y).size) ∧
        e = { v := .any 1, touch := [(id, .row ty c)], mod := [(id, .row ty c')] }
    | _ => False
  | .nilCheck x => match ev x with
    | .ptr id path => ∃ ty c, e = { v := ev x, touch := [(id, .row ty c)] }
    | .pp y => e = { v := ev x }
    | _ => False
  | .binOp op t x y _ => match ev x, ev y with
    | .p X, .p Y => ∃ r, BinRun P op t x y X Y r ∧ e = { v := .p (.v r) }
    | .ptr id path, .p (.v (.pointer none)) => ∃ ty c el, ptOf P t = some el ∧ ((op = .eql ∧ e = { v := .p (.v (.bool false)), touch := [(id, .row ty c)] }) ∨ (op = .neq ∧ e = { v := .p (.v (.bool true)), touch := [(id, .row ty c)] }))
    | _, _ => False
  | .unOp op _ x => ∃ vx r, ev x = .p (.v vx) ∧ UnRun op vx r ∧ e = { v := .p (.v r) }
  | .convert src dst x => match ev x with
    | .p (.v (.int _ n)) => ∃ k ks, ikOf P src = some ks ∧ ikOf P dst = some k ∧ e = { v := .p (.v (.int k (k.wrap n))) }
    | X => ∃ el l, isStr P dst = true ∧ elOf P src = some el ∧ ikOf P el = some .u8 ∧ (∃ xs, srcOf X 1 xs [] ∧ xs = (l : List UInt8).map fun b => PV.v (.int .u8 b.toNat)) ∧ e = { v := .p (.v (.string ⟨l.toArray⟩)) }
  | .makeInterface t x => isIfc P t = false ∧ ∃ vx, ev x = .p (.v vx) ∧ e = { v := .p (.v (.iface t vx)) }
  | .makeFunc f first caps => first = #[] ∧ (∀ c ∈ caps.toList, (ev c).cellish = true ∧ (ev c).isAgg = false) ∧ e = { v := .fn f (caps.toList.map ev) }
  | .fieldAddr t x f => match ev x with
    | .ptr id path => ∃ ty c c' shs off ft ag n, c.get? path = some c' ∧ c'.shape = .st shs ∧ fldOf P t f = some (off, ft) ∧ ldOf P ft = some (ag, n) ∧ n ≠ 0 ∧ off = Shape.sizeL (shs.take f) ∧
        e = { v := .ptr id (path ++ [f]), touch := [(id, .row ty c)] }
    | .pp (.st fs) => ∃ g off ft ag n, fs[f]? = some g ∧ fldOf P t f = some (off, ft) ∧ ldOf P ft = some (ag, n) ∧ n ≠ 0 ∧ off = PV.sizeL (fs.take f) ∧ e = { v := .pp g }
    | _ => False
  | .field t x f => match ev x with
    | .p (.st fs) => ∃ g off ft, fs[f]? = some g ∧ fldOf P t f = some (off, ft) ∧ ldOf P ft = some ((AV.p g).isAgg, g.size) ∧ off = PV.sizeL (fs.take f) ∧ e = { v := .p g }
    | .st fs => ∃ g off ft, fs[f]? = some g ∧ g.cellish = true ∧ fldOf P t f = some (off, ft) ∧ ldOf P ft = some (g.isAgg, g.size) ∧ off = AV.sizeL (fs.take f) ∧ e = { v := g }
    | _ => False
  | .indexAddr t x i => ∃ k n, ev i = .p (.v (.int k n)) ∧ 0 ≤ n ∧ match ev x with
    | .p (.sl sz es) => ∃ el ag g, elOf P t = some el ∧ ldOf P el = some (ag, sz) ∧ es[n.toNat]? = some g ∧ e = { v := .pp g }
    | .slt _ sz es => ∃ el ag g, elOf P t = some el ∧ ldOf P el = some (ag, sz) ∧ es[n.toNat]? = some g ∧ e = { v := .pp g }
    | .osl id path sz len => ∃ ty c c' el ag, c.get? path = some c' ∧ c'.shape.uni sz ∧ n.toNat < c'.cnt ∧ elOf P t = some el ∧ ldOf P el = some (ag, sz) ∧ n.toNat < len ∧ e = { v := .ptr id (path ++ [n.toNat]), touch := [(id, .row ty c)] }
    | .ptr id path => ∃ ty c c' el ag sz len, c.get? path = some c' ∧ c'.shape.uni sz ∧ n.toNat < c'.cnt ∧ arOf P t = some (len, el) ∧ ldOf P el = some (ag, sz) ∧ n.toNat < len ∧ e = { v := .ptr id (path ++ [n.toNat]), touch := [(id, .row ty c)] }
    | .pp y => ∃ g el ag sz len, y.get? [n.toNat] = some g ∧ y.shape.uni sz ∧ arOf P t = some (len, el) ∧ ldOf P el = some (ag, sz) ∧ n.toNat < len ∧ e = { v := .pp g }
    | _ => False
  | .index t x i => ∃ k n, ev i = .p (.v (.int k n)) ∧ 0 ≤ n ∧ match ev x with
    | .p (.ints k' len l) => ∃ el u, arOf P t = some (len, el) ∧ ldOf P el = some (false, 1) ∧ l[n.toNat]? = some u ∧ e = { v := .p (.v (.int k' u)) }
    | .p (.v (.string s)) => ∃ u, isStr P t = true ∧ s.data.toList[n.toNat]? = some u ∧ e = { v := .p (.v (.int .u8 u.toNat)) }
    | _ => False
  | .extract x i => match ev x with
    | .tup vs => ∃ a, vs[i]? = some a ∧ e = { v := a }
    | _ => False
  | .slice t x lo hi mx => match ev x, lo.map ev, hi.map ev, mx.map ev with
    | .ptr id path, none, none, none => ∃ ty c c' len el sz ag, c.get? path = some c' ∧ c'.shape.uni sz ∧ arOf P t = some (len, el) ∧ ldOf P el = some (ag, sz) ∧ Shape.cnt path c.shape ≤ len ∧ e = { v := .osl id path sz len, touch := [(id, .row ty c)] }
    | .p (.sl sz es), l, h, none => ∃ el ag a b, elOf P t = some el ∧ ldOf P el = some (ag, sz) ∧ boundOf l 0 a ∧ boundOf h es.length b ∧ a ≤ b ∧ b ≤ es.length ∧ e = { v := .p (.sl sz ((es.take b).drop a)) }
    | .slt _ sz es, l, h, none => ∃ el ag a b, elOf P t = some el ∧ ldOf P el = some (ag, sz) ∧ boundOf l 0 a ∧ boundOf h es.length b ∧ a ≤ b ∧ b ≤ es.length ∧ e = { v := .p (.sl sz ((es.take b).drop a)) }
    | .p (.v (.slice none 0 0)), l, h, none => ∃ el ag sz, elOf P t = some el ∧ ldOf P el = some (ag, sz) ∧ boundOf l 0 0 ∧ boundOf h 0 0 ∧ e = { v := .p (.v (.slice none 0 0)) }
    | .p (.sl sz es), l, some (.p (.v (.int _ h))), some (.p (.v (.int _ mxv))) => ∃ el ag a d, o.dst = some d ∧ d < 1000 ∧ elOf P t = some el ∧ ldOf P el = some (ag, sz) ∧ boundOf l 0 a ∧ 0 ≤ h ∧ h = mxv ∧ a ≤ h.toNat ∧ h.toNat ≤ es.length ∧
        e = ⟨.slt d sz ((es.take h.toNat).drop a), [], [(d, .tail (h.toNat - a))], [d]⟩
    | _, _, _, _ => False
  | .build t parts => ∃ z c, zeroPV P t = some z ∧ zeroChk P t ∧ bldB P t = true ∧ setAll (.p z) (parts.toList.map fun p => (p.1, ev p.2)) c ∧ c.isAgg = true ∧ e = { v := c }
  | .buildSlice t len parts => ∃ el ag sz z ps es, elOf P t = some el ∧ ldOf P el = some (ag, sz) ∧ zeroPV P el = some z ∧ zeroChk P el ∧ z.size = sz ∧ 0 < sz ∧ len * sz ≤ 16777216 ∧
      (parts.toList.map fun p => (p.1, (ev p.2).pview)) = (ps : List (Nat × PV)).map (fun p => (p.1, some p.2)) ∧ setAll (.p (.st (List.replicate len z))) (ps.map fun p => (p.1, .p p.2)) (.p (.st es)) ∧ e = { v := .p (.sl sz es) }
  | .call c => match c.callee with
    | .builtin .len => match c.args.toList.map ev, c.argTypes.toList with
      | [.p (.sl _ es)], [t] => (∃ el, elOf P t = some el) ∧ e = { v := .p (.v (.int .i64 es.length)) }
      | [.slt _ _ es], [t] => (∃ el, elOf P t = some el) ∧ e = { v := .p (.v (.int .i64 es.length)) }
      | [.p (.v (.slice none 0 0))], [t] => (∃ el, elOf P t = some el) ∧ e = { v := .p (.v (.int .i64 0)) }
      | [.p (.v (.string s))], [t] => isStr P t = true ∧ e = { v := .p (.v (.int .i64 s.size)) }
      | [.osl id path k n], [t] => ∃ ty cc, (∃ el, elOf P t = some el) ∧ e = { v := .p (.v (.int .i64 n)), touch := [(id, .row ty cc)] }
      | _, _ => False
    | .builtin .append => match c.args.toList.map ev, c.argTypes.toList with
      | [s, x], [t, t'] => ∃ el ag sz by' xs tc, t' = t ∧ elOf P t = some el ∧ ldOf P el = some (ag, sz) ∧ (∃ z, zeroPV P el = some z ∧ z.size = sz) ∧ zeroChk P el ∧ 0 < sz ∧ bytesOf P el = some by' ∧ 0 < by' ∧ srcOf x sz xs tc ∧ appEff o.dst el s sz xs tc (fun n => n * by' ≤ 140737488355328) e
      | _, _ => False
    | .builtin .min => match c.args.toList.map ev with
      | [.p (.v (.int k x)), .p (.v (.int k' y))] => k' = k ∧ e = { v := .p (.v (.int k (if y < x then y else x))) }
      | _ => False
    | .builtin .max => match c.args.toList.map ev with
      | [.p (.v (.int k x)), .p (.v (.int k' y))] => k' = k ∧ e = { v := .p (.v (.int k (if y > x then y else x))) }
      | _ => False
    | .value f => match ev f with
      | .p (.v (.func (.func g) first captured)) => first = #[] ∧ captured = #[] ∧ callEff P g (c.args.toList.map ev) e
      | .fn (.func g) caps => callEff P g (c.args.toList.map ev ++ caps) e
      | _ => False
    | _ => False
  | _ => False
where
  boundOf (b : Option AV) (dflt n : Nat) : Prop :=
    match b with
    | none => n = dflt
    | some (.p (.v (.int _ i))) => 0 ≤ i ∧ n = i.toNat
    | _ => False
end Go.Av
end

section
/- Abstract values: the model's operations do what their effects say: moves, variables, loads and stores, places. -/
namespace Go.Av
open Go
set_option linter.unusedVariables false
set_option linter.unusedSimpArgs false
set_option linter.unusedSectionVars false
variable [Globs]

section
variable {P : Program} {w : World} {A F : Avoid} {m : Nat → Reg} {H : Nat → AObj}

theorem RepV.ptr_val {x : Value} {id : Nat} {path : List Nat} {ty : TypeId} {c : AV} (h : RepV w A m H x (.ptr id path)) (hh : H id = .row ty c) :
    x = .pointer (some ⟨(m id).b, c.shape.off path, none⟩) := by
  have h := h.single rfl rfl
  generalize hv : [x] = vs at h
  cases h with
  | ptr h1 h2 => injection hv with hv; subst hv; exact h2 ty c hh
theorem RepV.pp_val {x : Value} {y : PV} (h : RepV w A m H x (.pp y)) : ∃ b o vs, x = .pointer (some ⟨b, o, none⟩) ∧ RepP w A vs y ∧ Cells w A b o vs := by
  have h1 := h.single rfl rfl
  generalize hv : [x] = vs at h1
  cases h1 with
  | pp h2 hc => injection hv with hv; subst hv; exact ⟨_, _, _, rfl, h2, hc⟩
theorem RepV.of_pp {b o : Nat} {vs : List Value} {y : PV} (h : RepP w A vs y) (hc : Cells w A b o vs) : RepV w A m H (.pointer (some ⟨b, o, none⟩)) (.pp y) := .one (.pp h hc) rfl
theorem RepV.of_ptr {id : Nat} {path : List Nat} {ty : TypeId} {c : AV} (hh : H id = .row ty c) : RepV w A m H (.pointer (some ⟨(m id).b, c.shape.off path, none⟩)) (.ptr id path) :=
  .one (.ptr rfl fun e c' h => by rw [hh] at h; injection h with _ h; subst h; rfl) rfl

theorem row_cells {b : Nat} {cs : Array Value} {e : TypeId} {fr : Nat × Nat} {vs : List Value} (hg : w.heap[b]? = some (.cells cs e fr)) (ht : cs.toList.take vs.length = vs) :
    ∀ (j : Nat) x, vs[j]? = some x → w.cell? ⟨b, j, none⟩ = some x := by
  intro j x hj
  rw [cell_of_row w b j cs e fr hg]
  rw [← ht, List.getElem?_take] at hj
  split at hj
  · simpa using hj
  · cases hj
theorem row_cells_at {b : Nat} {cs : Array Value} {e : TypeId} {fr : Nat × Nat} {a us r : List Value} (hg : w.heap[b]? = some (.cells cs e fr)) (ht : cs.toList.take (a ++ us ++ r).length = a ++ us ++ r) :
    ∀ (j : Nat) x, us[j]? = some x → w.cell? ⟨b, a.length + j, none⟩ = some x := by
  intro j x hj
  refine row_cells hg ht _ _ ?_
  have hlt := (List.getElem?_eq_some_iff.1 hj).1
  rw [List.append_assoc, List.getElem?_append_right (by omega), Nat.add_sub_cancel_left, List.getElem?_append_left hlt]
  exact hj
end

section
variable {P : Program} {o : Oper} {s : St}

theorem does_move {x : Operand} (ho : o.op = .move x ∨ o.op = .assign x) (hd : dstOk s o.dst) : Does P o s { v := s.ev x } :=
  Does.pure hd fun w F m a hs => ⟨a.eval x, by rcases ho with ho | ho <;> simp [execOp, ho], hs.eval x⟩

theorem does_pick {c x y : Operand} {t : Bool} (ho : o.op = .pick c x y) (hc : s.ev c = .p (.v (.bool t))) (hd : dstOk s o.dst) : Does P o s { v := if t then s.ev x else s.ev y } :=
  Does.pure hd fun w F m a hs => by
    have h := hs.eval c
    rw [hc] at h
    have hv := h.pv
    refine ⟨if t then a.eval x else a.eval y, ?_, ?_⟩
    · simp only [execOp, ho, hv, asBool]
      cases t <;> rfl
    · cases t
      · exact hs.eval y
      · exact hs.eval x

theorem does_new {t : TypeId} {d : Nat} {c : AV} (hd : dstOk s o.dst) (hdst : o.dst = some d) (hlt : d < 1000) (hdead : s.H d = .dead) (hn : noRef s.T s.H d) (hr : d ∉ c.refs)
    (hrun : ∀ (w : World) (F : Avoid) (m : Nat → Reg) (a : Act), Sim w F m s a.tmps → ∃ vs : List Value, RepC w (St.av F m s.H) m s.H vs c ∧
      (execOp a.eval o).run P w = .ok (.value (.pointer (some ⟨w.heap.size, 0, none⟩))) (w.alloc (.cells vs.toArray t))) :
    Does P o s ⟨.ptr d [], [], [(d, .row t c)], [d]⟩ :=
  Does.value hd fun w F m a hs => by
    obtain ⟨vs, hc, hr'⟩ := hrun w F m a hs
    obtain ⟨h1, h2⟩ := hs.new hdead hlt hn hc hr
    refine ⟨_, _, _, hr', h1, ?_, h2⟩
    have := RepV.of_ptr (w := w.alloc (.cells vs.toArray t)) (A := St.av F (upd m d ⟨w.heap.size, 0, vs.length⟩) (upd s.H d (.row t c))) (m := upd m d ⟨w.heap.size, 0, vs.length⟩) (H := upd s.H d (.row t c)) (id := d) (path := []) (ty := t) (c := c) (upd_same _ _ _)
    simpa [upd_same, Shape.off, mods] using this

theorem does_alloc {t : TypeId} {d : Nat} {z : PV} (ho : o.op = .alloc t) (hd : dstOk s o.dst) (hdst : o.dst = some d) (hlt : d < 1000) (hz : zeroPV P t = some z) (hzc : zeroChk P t) (hdead : s.H d = .dead) (hn : noRef s.T s.H d) :
    Does P o s ⟨.ptr d [], [], [(d, .row t (.p z))], [d]⟩ := by
  refine does_new hd hdst hlt hdead hn (by simp [AV.refs]) fun w F m a hs => ?_
  obtain ⟨z', i, v, h1, h2, h3, h4, h5⟩ := hzc
  rw [hz] at h1
  injection h1 with h1
  subst h1
  refine ⟨z.flat, .p (RepP.flat h5), ?_⟩
  rw [← h4]
  simp [execOp, ho, Instr.alloc, zeroValue, typeInfo, h2, h3, newVar, newRow]

theorem does_box {t : TypeId} {x : Operand} {d : Nat} (ho : o.op = .box t x) (hd : dstOk s o.dst) (hdst : o.dst = some d) (hlt : d < 1000) (hx : (s.ev x).cellish = true) (hr : d ∉ (s.ev x).refs) (hdead : s.H d = .dead) (hn : noRef s.T s.H d) :
    Does P o s ⟨.ptr d [], [], [(d, .row t (s.ev x))], [d]⟩ := by
  refine does_new hd hdst hlt hdead hn hr fun w F m a hs => ?_
  refine ⟨(a.eval x).cells.toList, (hs.eval x).cells hx, ?_⟩
  simp [execOp, ho, Instr.box, newVar, newRow]

theorem size_one_of {a : AV} (hc : a.cellish = true) (hg : a.isAgg = false) : a.size = 1 := isAgg_size hg fun n h => by subst h; simp [AV.cellish] at hc

theorem does_load_ptr {t : TypeId} {x : Operand} {id : Nat} {path : List Nat} {ty : TypeId} {c c' : AV} (ho : o.op = .load t x) (hd : dstOk s o.dst) (hx : s.ev x = .ptr id path) (hH : s.H id = .row ty c)
    (hg : c.get? path = some c') (hce : c'.cellish = true) (hl : ldOf P t = some (c'.isAgg, c'.size)) {tc : List (Nat × AObj)} : Does P o s { v := c', touch := tc } :=
  Does.pure hd fun w F m a hs => by
    have hv := hs.eval x
    rw [hx] at hv
    have hv := hv.ptr_val hH
    obtain ⟨cs, vs, h1, h2, h3, h4, h5⟩ := hs.heap.row hH
    obtain ⟨a1, us, b1, rfl, hl1, hr1, _⟩ := h5.at_ path hg
    have hlen := hr1.len
    have hrun := run_loadVar_cells (P := P) (w := w) hl hlen (b := (m id).b) (o := c.shape.off path) (by rw [← hl1]; exact row_cells_at h1 h4) (fun e => size_one_of hce e)
    refine ⟨_, ?_, RepV.of_cells hr1 c'.isAgg rfl fun e => by rw [hlen]; exact size_one_of hce e⟩
    simp only [execOp, ho, hv, Instr.loadAt, Instr.sureAddr, Sem.run_bind, Sem.run_pure, Result.andThen_ok, hrun]

theorem does_load_pp {t : TypeId} {x : Operand} {y : PV} (ho : o.op = .load t x) (hd : dstOk s o.dst) (hx : s.ev x = .pp y) (hl : ldOf P t = some ((AV.p y).isAgg, y.size)) {tc : List (Nat × AObj)} : Does P o s { v := .p y, touch := tc } :=
  Does.pure hd fun w F m a hs => by
    have hv := hs.eval x
    rw [hx] at hv
    obtain ⟨b, off, vs, e1, h1, h2⟩ := hv.pp_val
    have hrun := run_loadVar_cells (P := P) (w := w) hl h1.len (fun j x hj => (h2 j x hj).1) (fun e => by have := size_one_of (a := .p y) rfl e; simpa [AV.size] using this)
    refine ⟨_, ?_, RepV.of_cells (a := .p y) (.p h1) (AV.p y).isAgg rfl fun e => by rw [h1.len]; have := size_one_of (a := .p y) rfl e; simpa [AV.size] using this⟩
    simp only [execOp, ho, e1, Instr.loadAt, Instr.sureAddr, Sem.run_bind, Sem.run_pure, Result.andThen_ok, hrun]

theorem list_splice {vs a us b us' : List Value} {cs : List Value} (h : cs.take (a ++ us ++ b).length = a ++ us ++ b) (hl : us'.length = us.length) :
    (cs.take a.length ++ us' ++ cs.drop (a.length + us'.length)).take (a ++ us ++ b).length = a ++ us' ++ b ∧ a.length + us'.length ≤ cs.length ∧ cs.take a.length = a := by
  have hc : cs = (a ++ us ++ b) ++ cs.drop (a ++ us ++ b).length := by
    have := (List.take_append_drop (a ++ us ++ b).length cs).symm
    rwa [h] at this
  have h1 : cs.take a.length = a := by rw [hc]; simp
  have h2 : cs.drop (a.length + us'.length) = b ++ cs.drop (a ++ us ++ b).length := by
    rw [hl]
    conv => lhs; rw [hc]
    rw [show a ++ us ++ b ++ cs.drop (a ++ us ++ b).length = (a ++ us) ++ (b ++ cs.drop (a ++ us ++ b).length) by simp]
    rw [List.drop_left' (by simp)]
  refine ⟨?_, ?_, h1⟩
  · rw [h1, h2, show a ++ us' ++ (b ++ cs.drop (a ++ us ++ b).length) = (a ++ us' ++ b) ++ cs.drop (a ++ us ++ b).length by simp]
    exact List.take_left' (by simp [hl])
  · have := congrArg List.length hc
    simp at this
    omega

theorem does_store {t : TypeId} {x y : Operand} {id : Nat} {path : List Nat} {ty : TypeId} {c old c' : AV} {ag : Bool} (ho : o.op = .store t x y) (hdst : o.dst = none) (hx : s.ev x = .ptr id path) (hH : s.H id = .row ty c)
    (hg : c.get? path = some old) (hsh : (s.ev y).shape = old.shape) (hce : (s.ev y).cellish = true) (hset : c.set? path (s.ev y) = some c') (hl : ldOf P t = some (ag, (s.ev y).size)) {v : AV} {tc : List (Nat × AObj)} :
    Does P o s { v, touch := tc, mod := [(id, .row ty c')] } :=
  Does.skip hdst fun w F m a hs => by
    have hv := hs.eval x
    rw [hx] at hv
    have hv := hv.ptr_val hH
    have hy := (hs.eval y).cells hce
    obtain ⟨cs, vs, h1, h2, h3, h4, h5⟩ := hs.heap.row hH
    obtain ⟨a1, us, b1, rfl, hl1, hr1, hs1⟩ := h5.at_ path hg
    obtain ⟨h6, h7⟩ := hs1 _ _ _ hy hsh hset
    have hlen : (a.eval y).cells.toList.length = us.length := by rw [hy.len, hr1.len, ← AV.size_shape, ← AV.size_shape, hsh]
    obtain ⟨e1, e2, e3⟩ := list_splice (vs := []) h4 hlen
    have hone := hy.one
    have hst := run_storeCells_at P (m id).b (c.shape.off path) ty (a.eval y).cells.toList 0 cs w h1 (by rw [← hl1]; simpa using e2) hone
    simp only [Nat.add_zero] at hst
    have hsz := (ldOf_run hl w).2
    have hcs : (a.eval y).cells.size = (s.ev y).size := by have := hy.len; simpa using this
    have hset := hs.set hH h1 (cs' := (cs.toList.take (c.shape.off path) ++ (a.eval y).cells.toList ++ cs.toList.drop (c.shape.off path + (a.eval y).cells.toList.length)).toArray) (c' := c')
      (by rw [← hl1]; simp at e2 ⊢; omega) (fun i hi => ?_) h7 (by
        rw [h3, ← hl1]
        simp only
        rw [e1]
        exact h6)
    · refine ⟨_, m, ?_, hset.1, hset.2⟩
      simp only [execOp, ho, hv, Instr.storeAt, Instr.sureAddr, storeVar, Sem.run_bind, Sem.run_pure, Result.andThen_ok, hsz, hcs]
      simp only [ne_eq, not_true_eq_false, if_false, Sem.run_bind, hst, Result.andThen_ok, Sem.run_pure]
    · -- behind the row's end nothing turns
      rw [h3] at hi
      simp only [List.length_append] at hi
      have hlt : (cs.toList.take (c.shape.off path)).length = c.shape.off path := by rw [← hl1]; simp at e2 ⊢; omega
      simp only [List.getElem?_toArray]
      rw [List.getElem?_append_right (by simp only [List.length_append, hlt]; omega)]
      simp only [List.length_append, hlt, List.getElem?_drop]
      rw [show c.shape.off path + (a.eval y).cells.toList.length + (i - (c.shape.off path + (a.eval y).cells.toList.length)) = i by omega]
      simp

theorem does_nilCheck_ptr {x : Operand} {id : Nat} {path : List Nat} {ty : TypeId} {c : AV} (ho : o.op = .nilCheck x) (hd : dstOk s o.dst) (hx : s.ev x = .ptr id path) (hH : s.H id = .row ty c) {tc : List (Nat × AObj)} : Does P o s { v := s.ev x, touch := tc } :=
  Does.pure hd fun w F m a hs => by
    have hv := hs.eval x
    have hv2 := hv
    rw [hx] at hv2
    have hv2 := hv2.ptr_val hH
    exact ⟨a.eval x, by simp [execOp, ho, hv2], hv⟩
theorem does_nilCheck_pp {x : Operand} {y : PV} (ho : o.op = .nilCheck x) (hd : dstOk s o.dst) (hx : s.ev x = .pp y) {tc : List (Nat × AObj)} : Does P o s { v := s.ev x, touch := tc } :=
  Does.pure hd fun w F m a hs => by
    have hv := hs.eval x
    have hv2 := hv
    rw [hx] at hv2
    obtain ⟨b, off, vs, e1, _⟩ := hv2.pp_val
    exact ⟨a.eval x, by simp [execOp, ho, e1], hv⟩
end
end Go.Av
end

section
/- Abstract values: the model's operations do what their effects say: sums and tests, parts and places, slices, literals. -/
namespace Go.Av
open Go
set_option linter.unusedVariables false
set_option linter.unusedSimpArgs false
set_option linter.unusedSectionVars false
variable [Globs]

section
variable {P : Program} {o : Oper} {s : St}

theorem RepV.p_val {w : World} {A : Avoid} {m : Nat → Reg} {H : Nat → AObj} {x : Value} {X : PV} (h : RepV w A m H x (.p X)) :
    if (AV.p X).isAgg then ∃ vs : List Value, x = .agg vs.toArray ∧ RepP w A vs X else RepP w A [x] X := by
  cases h with
  | one h hs => rw [hs]; exact h.p_inv
  | agg h hs => rw [hs]; exact ⟨_, rfl, h.p_inv⟩

theorem does_binOp {op : BinOp} {t ty : TypeId} {x y : Operand} {X Y : PV} {r : Value} (ho : o.op = .binOp op t x y ty) (hd : dstOk s o.dst) (hx : s.ev x = .p X) (hy : s.ev y = .p Y) (hr : BinRun P op t x y X Y r) {tc : List (Nat × AObj)} :
    Does P o s { v := .p (.v r), touch := tc } :=
  Does.pure hd fun w F m a hs => by
    have h1 := hs.eval x
    have h2 := hs.eval y
    rw [hx] at h1
    rw [hy] at h2
    have := hr.2 w _ _ _ h1.p_val h2.p_val
    refine ⟨r, ?_, RepV.of_v hr.1⟩
    simp only [execOp, ho]
    rw [Sem.run_bind, this]
    rfl

theorem run_equalIn_ptr_nil {t el : TypeId} (hu : P.underlying t = some (.pointer el)) (d : Nat) (a : Addr) (w : World) : (Op.equalIn (d + 1) t (.pointer (some a)) (.pointer none)).run P w = .ok false w := by
  simp only [Op.equalIn, Sem.run_bind, run_underlying hu, Result.andThen_ok, Sem.run_pure]
theorem binOp_eql_ptr (t : TypeId) (a b : Option Addr) : binOp .eql t (.pointer a) (.pointer b) = (do pure (.bool (← Op.equalIn (9999 + 1) t (.pointer a) (.pointer b)))) := by
  cases a <;> cases b <;> rfl
theorem binOp_neq_ptr (t : TypeId) (a b : Option Addr) : binOp .neq t (.pointer a) (.pointer b) = (do pure (.bool (!(← Op.equalIn (9999 + 1) t (.pointer a) (.pointer b))))) := by
  cases a <;> cases b <;> rfl
theorem eqGuard_ptr (op : BinOp) (t : TypeId) (x y : Operand) (a b : Option Addr) (w : World) : (eqGuard op t x y (.pointer a) (.pointer b)).run P w = .ok () w := by
  cases op <;> rfl

theorem does_binOp_nil {op : BinOp} {t ty el : TypeId} {x y : Operand} {id : Nat} {path : List Nat} {rt : TypeId} {c : AV} {b : Bool} (ho : o.op = .binOp op t x y ty) (hd : dstOk s o.dst) (hx : s.ev x = .ptr id path) (hH : s.H id = .row rt c)
    (hy : s.ev y = .p (.v (.pointer none))) (ht : ptOf P t = some el) (hb : (op = .eql ∧ b = false) ∨ (op = .neq ∧ b = true)) {tc : List (Nat × AObj)} :
    Does P o s { v := .p (.v (.bool b)), touch := tc } :=
  Does.pure hd fun w F m a hs => by
    have h1 := hs.eval x
    have h2 := hs.eval y
    rw [hx] at h1
    rw [hy] at h2
    have e1 := h1.ptr_val hH
    have e2 := h2.pv
    have hu : P.underlying t = some (.pointer el) := by
      unfold ptOf at ht
      split at ht <;> simp_all
    refine ⟨.bool b, ?_, RepV.of_v rfl⟩
    rcases hb with ⟨rfl, rfl⟩ | ⟨rfl, rfl⟩
    · simp only [execOp, ho, e1, e2, Sem.run_bind, eqGuard_ptr, binOp_eql_ptr, run_equalIn_ptr_nil hu, Result.andThen_ok, Sem.run_pure]
    · simp only [execOp, ho, e1, e2, Sem.run_bind, eqGuard_ptr, binOp_neq_ptr, run_equalIn_ptr_nil hu, Result.andThen_ok, Sem.run_pure, Bool.not_false]

theorem does_unOp {op : UnOp} {t : TypeId} {x : Operand} {vx r : Value} (ho : o.op = .unOp op t x) (hd : dstOk s o.dst) (hx : s.ev x = .p (.v vx)) (hr : UnRun op vx r) {tc : List (Nat × AObj)} : Does P o s { v := .p (.v r), touch := tc } :=
  Does.pure hd fun w F m a hs => by
    have h1 := hs.eval x
    rw [hx] at h1
    refine ⟨r, ?_, RepV.of_v hr.1⟩
    simp only [execOp, ho, h1.pv]
    rw [Sem.run_bind, hr.2]
    rfl

theorem does_convert_int {src dst : TypeId} {x : Operand} {k ks kx : IntKind} {n : Int} (ho : o.op = .convert src dst x) (hd : dstOk s o.dst) (hx : s.ev x = .p (.v (.int kx n))) (hs' : ikOf P src = some ks) (hk : ikOf P dst = some k) {tc : List (Nat × AObj)} :
    Does P o s { v := .p (.v (.int k (k.wrap n))), touch := tc } :=
  Does.pure hd fun w F m a hs => by
    have h1 := hs.eval x
    rw [hx] at h1
    have u1 : P.underlying src = some (.int ks) := by unfold ikOf at hs'; split at hs' <;> simp_all
    have u2 : P.underlying dst = some (.int k) := by unfold ikOf at hk; split at hk <;> simp_all
    refine ⟨_, ?_, RepV.of_v rfl⟩
    simp [execOp, ho, h1.pv, convert, run_underlying u1, run_underlying u2, Conv.intToInt]

theorem does_makeInterface {t : TypeId} {x : Operand} {vx : Value} (ho : o.op = .makeInterface t x) (hd : dstOk s o.dst) (ht : isIfc P t = false) (hx : s.ev x = .p (.v vx)) {tc : List (Nat × AObj)} : Does P o s { v := .p (.v (.iface t vx)), touch := tc } :=
  Does.pure hd fun w F m a hs => by
    have h1 := hs.eval x
    rw [hx] at h1
    refine ⟨.iface t vx, ?_, RepV.of_v rfl⟩
    unfold isIfc at ht
    cases hu : P.underlying t with
    | none => simp [hu] at ht
    | some d =>
      simp only [execOp, ho, h1.pv, Instr.makeInterface, Sem.run_bind, run_underlying hu, Result.andThen_ok]
      cases d <;> first | rfl | (simp [hu] at ht)

theorem does_makeFunc {f : Fn} {first caps : Array Operand} (ho : o.op = .makeFunc f first caps) (hd : dstOk s o.dst) (hf : first = #[]) (hone : ∀ c ∈ caps.toList, (s.ev c).cellish = true ∧ (s.ev c).isAgg = false) {tc : List (Nat × AObj)} : Does P o s { v := .fn f (caps.toList.map s.ev), touch := tc } :=
  Does.pure hd fun w F m a hs => by
    refine ⟨.func f #[] ((caps.toList.map a.eval).toArray), ?_, .one (.fn (by simp) (fun i av h1 => ?_) fun i av x h1 h2 => ?_) rfl⟩
    · subst hf
      have e : caps.map a.eval = (caps.toList.map a.eval).toArray := Array.ext' (by simp)
      simp only [execOp, ho, Instr.makeFunc, Sem.run_bind, Sem.run_pure, Result.andThen_ok, e, Array.map_empty]
    · simp only [List.getElem?_map] at h1
      cases hc : caps.toList[i]? with
      | none => simp [hc] at h1
      | some c => simp [hc] at h1; subst h1; exact (hone c (List.mem_of_getElem? hc)).2
    · simp only [List.getElem?_map] at h1 h2
      cases hc : caps.toList[i]? with
      | none => simp [hc] at h1
      | some c =>
        simp [hc] at h1 h2
        subst h1; subst h2
        obtain ⟨g1, g2⟩ := hone c (List.mem_of_getElem? hc)
        exact (hs.eval c).single g1 g2

theorem fld_run {t ft : TypeId} {f off : Nat} (h : fldOf P t f = some (off, ft)) : ∃ fs x, P.underlying t = some (.struct fs) ∧ fs[f]? = some x ∧ x.offset = off ∧ x.type = ft := by
  unfold fldOf at h
  split at h
  · rename_i fs hu
    cases hx : fs[f]? with
    | none => simp [hx] at h
    | some x => simp [hx] at h; exact ⟨fs, x, hu, hx, h.1, h.2⟩
  · cases h

theorem run_fieldAt {t ft : TypeId} {f off n : Nat} {ag : Bool} (h : fldOf P t f = some (off, ft)) (hl : ldOf P ft = some (ag, n)) (hn : n ≠ 0) (w : World) (b p : Nat) :
    (Instr.fieldAt t (.pointer (some ⟨b, p, none⟩)) f).run P w = .ok (.pointer (some ⟨b, p + off, none⟩)) w := by
  obtain ⟨fs, x, h1, h2, h3, h4⟩ := fld_run h
  subst h3; subst h4
  have hz := (ldOf_run hl w).2
  simp only [Instr.fieldAt, Sem.run_bind, run_underlying h1, Result.andThen_ok, h2, Instr.sureAddr, Sem.run_pure, fieldPlace, hz]
  rw [if_neg hn]
  simp [Addr.add_lit]

theorem does_fieldAddr_ptr {t ft ty : TypeId} {x : Operand} {f off n id : Nat} {path : List Nat} {c c' : AV} {shs : List Shape} {ag : Bool} (ho : o.op = .fieldAddr t x f) (hd : dstOk s o.dst) (hx : s.ev x = .ptr id path) (hH : s.H id = .row ty c)
    (hg : c.get? path = some c') (hsh : c'.shape = .st shs) (hf : fldOf P t f = some (off, ft)) (hl : ldOf P ft = some (ag, n)) (hn : n ≠ 0) (hoff : off = Shape.sizeL (shs.take f)) {tc : List (Nat × AObj)} :
    Does P o s { v := .ptr id (path ++ [f]), touch := tc } :=
  Does.pure hd fun w F m a hs => by
    have h1 := hs.eval x
    rw [hx] at h1
    have e1 := h1.ptr_val hH
    have e2 := Shape.off_append path (i := f) trivial rfl hg
    refine ⟨.pointer (some ⟨(m id).b, c.shape.off (path ++ [f]), none⟩), ?_, RepV.of_ptr hH⟩
    have := run_fieldAt hf hl hn w (m id).b (c.shape.off path)
    simp only [execOp, ho, e1, Sem.run_bind, this, Result.andThen_ok, e2, hsh, Shape.off, ← hoff, Nat.add_zero]
    rfl

theorem RepP.field {w : World} {A : Avoid} {b p : Nat} {vs : List Value} {fs : List PV} {f : Nat} {g : PV} (h : RepP w A vs (.st fs)) (hc : Cells w A b p vs) (hg : fs[f]? = some g) :
    ∃ us, RepP w A us g ∧ Cells w A b (p + PV.sizeL (fs.take f)) us := by
  obtain ⟨a, us, r, rfl, hl, hr, _⟩ := h.stAt hg
  refine ⟨us, hr, fun j x hj => ?_⟩
  have hlt := (List.getElem?_eq_some_iff.1 hj).1
  have := hc (a.length + j) x (by rw [List.append_assoc, List.getElem?_append_right (by omega), Nat.add_sub_cancel_left, List.getElem?_append_left hlt]; exact hj)
  have hs : a.length = PV.sizeL (fs.take f) := by
    rw [hl, PV.shapeL_map, ← List.map_take, ← PV.shapeL_map, PV.sizeL_shape]
  rw [← hs, Nat.add_assoc]
  exact this

theorem does_fieldAddr_pp {t ft : TypeId} {x : Operand} {f off n : Nat} {fs : List PV} {g : PV} {ag : Bool} (ho : o.op = .fieldAddr t x f) (hd : dstOk s o.dst) (hx : s.ev x = .pp (.st fs))
    (hg : fs[f]? = some g) (hf : fldOf P t f = some (off, ft)) (hl : ldOf P ft = some (ag, n)) (hn : n ≠ 0) (hoff : off = PV.sizeL (fs.take f)) {tc : List (Nat × AObj)} :
    Does P o s { v := .pp g, touch := tc } :=
  Does.pure hd fun w F m a hs => by
    have h1 := hs.eval x
    rw [hx] at h1
    obtain ⟨b, p, vs, e1, h2, h3⟩ := h1.pp_val
    obtain ⟨us, h4, h5⟩ := h2.field h3 hg
    refine ⟨_, ?_, RepV.of_pp h4 h5⟩
    have := run_fieldAt hf hl hn w b p
    simp only [execOp, ho, e1, Sem.run_bind, this, Result.andThen_ok, hoff]
    rfl

theorem run_part {ft : TypeId} {ag : Bool} {n : Nat} (hl : ldOf P ft = some (ag, n)) (w : World) {a us r : List Value} (hlen : us.length = n) (h1 : ag = false → n = 1) :
    (part ft (a ++ us ++ r).toArray a.length).run P w = .ok (if ag then .agg us.toArray else us.headD undef) w := by
  obtain ⟨h2, h3⟩ := ldOf_run hl w
  cases ag with
  | true =>
    simp only [part, Sem.run_bind, h2, Result.andThen_ok, if_true, h3, Sem.run_pure]
    congr 2
    apply Array.ext'
    simp [hlen.symm]
  | false =>
    obtain ⟨x, rfl⟩ := List.length_eq_one_iff.1 (hlen.trans (h1 rfl))
    simp only [part, Sem.run_bind, h2, Result.andThen_ok]
    simp

theorem does_field_p {t ft : TypeId} {x : Operand} {f off : Nat} {fs : List PV} {g : PV} (ho : o.op = .field t x f) (hd : dstOk s o.dst) (hx : s.ev x = .p (.st fs)) (hg : fs[f]? = some g) (hf : fldOf P t f = some (off, ft))
    (hl : ldOf P ft = some ((AV.p g).isAgg, g.size)) (hoff : off = PV.sizeL (fs.take f)) {tc : List (Nat × AObj)} : Does P o s { v := .p g, touch := tc } :=
  Does.pure hd fun w F m a hs => by
    have h1 := hs.eval x
    rw [hx] at h1
    have h1 := h1.p_val
    simp only [AV.isAgg, if_true] at h1
    obtain ⟨vs, e1, h2⟩ := h1
    obtain ⟨a1, us, r, rfl, hl1, hr, _⟩ := h2.stAt hg
    have hs1 : a1.length = off := by rw [hl1, hoff, PV.shapeL_map, ← List.map_take, ← PV.shapeL_map, PV.sizeL_shape]
    obtain ⟨fls, fx, u1, u2, u3, u4⟩ := fld_run hf
    subst u3; subst u4
    have hp := run_part hl w (a := a1) (r := r) hr.len (fun e => by have := size_one_of (a := .p g) rfl e; simpa [AV.size] using this)
    refine ⟨_, ?_, RepV.of_cells (a := .p g) (.p hr) (AV.p g).isAgg rfl fun e => by rw [hr.len]; have := size_one_of (a := .p g) rfl e; simpa [AV.size] using this⟩
    simp only [execOp, ho, e1, Instr.field, Sem.run_bind, run_underlying u1, Result.andThen_ok, u2, asAgg, Sem.run_pure, ← hs1, hp]

theorem RepV.st_val {w : World} {A : Avoid} {m : Nat → Reg} {H : Nat → AObj} {x : Value} {fs : List AV} (h : RepV w A m H x (.st fs)) : ∃ vs : List Value, x = .agg vs.toArray ∧ RepC w A m H vs (.st fs) := by
  cases h with
  | one h hs => simp [AV.isAgg] at hs
  | agg h2 _ => exact ⟨_, rfl, h2⟩

theorem does_field_st {t ft : TypeId} {x : Operand} {f off : Nat} {fs : List AV} {g : AV} (ho : o.op = .field t x f) (hd : dstOk s o.dst) (hx : s.ev x = .st fs) (hg : fs[f]? = some g) (hce : g.cellish = true) (hf : fldOf P t f = some (off, ft))
    (hl : ldOf P ft = some (g.isAgg, g.size)) (hoff : off = AV.sizeL (fs.take f)) {tc : List (Nat × AObj)} : Does P o s { v := g, touch := tc } :=
  Does.pure hd fun w F m a hs => by
    have h1 := hs.eval x
    rw [hx] at h1
    obtain ⟨vs, e1, h2⟩ := h1.st_val
    obtain ⟨a1, us, r, rfl, hl1, hr, _⟩ := h2.stAt hg
    have hs1 : a1.length = off := by rw [hl1, hoff, AV.shapeL_map, ← List.map_take, ← AV.shapeL_map, AV.sizeL_shape]
    obtain ⟨fls, fx, u1, u2, u3, u4⟩ := fld_run hf
    subst u3; subst u4
    have hp := run_part hl w (a := a1) (r := r) hr.len (fun e => size_one_of hce e)
    refine ⟨_, ?_, RepV.of_cells hr g.isAgg rfl fun e => by rw [hr.len]; exact size_one_of hce e⟩
    simp only [execOp, ho, e1, Instr.field, Sem.run_bind, run_underlying u1, Result.andThen_ok, u2, asAgg, Sem.run_pure, ← hs1, hp]

theorem el_run {t e : TypeId} (h : elOf P t = some e) : P.underlying t = some (.slice e) := by unfold elOf at h; split at h <;> simp_all
theorem ar_run {t e : TypeId} {n : Nat} (h : arOf P t = some (n, e)) : P.underlying t = some (.array n e) := by unfold arOf at h; split at h <;> simp_all

theorem run_indexAt_slice {t el : TypeId} {sz : Nat} {ag : Bool} (h : elOf P t = some el) (hl : ldOf P el = some (ag, sz)) (w : World) (b p n c : Nat) (k : IntKind) {i : Int} (h0 : 0 ≤ i) (h1 : i.toNat < n) :
    (Instr.indexAt t (.slice (some ⟨b, p, none⟩) n c) (.int k i)).run P w = .ok (.pointer (some ⟨b, p + i.toNat * sz, none⟩)) w := by
  have hz := (ldOf_run hl w).2
  simp only [Instr.indexAt, asIntOf, Sem.run_bind, Sem.run_pure, Result.andThen_ok, run_underlying (el_run h)]
  rw [if_pos ⟨h0, by omega⟩]
  simp only [Sem.run_bind, hz, Result.andThen_ok, Sem.run_pure, Addr.add_lit]
theorem run_indexAt_array {t el : TypeId} {sz len : Nat} {ag : Bool} (h : arOf P t = some (len, el)) (hl : ldOf P el = some (ag, sz)) (w : World) (b p : Nat) (k : IntKind) {i : Int} (h0 : 0 ≤ i) (h1 : i.toNat < len) :
    (Instr.indexAt t (.pointer (some ⟨b, p, none⟩)) (.int k i)).run P w = .ok (.pointer (some ⟨b, p + i.toNat * sz, none⟩)) w := by
  have hz := (ldOf_run hl w).2
  simp only [Instr.indexAt, asIntOf, Sem.run_bind, Sem.run_pure, Result.andThen_ok, run_underlying (ar_run h), Instr.sureAddr]
  rw [if_pos ⟨h0, by omega⟩]
  simp only [Sem.run_bind, hz, Result.andThen_ok, Sem.run_pure, Addr.add_lit]

/-- A slice that holds something, in memory. -/
theorem RepP.sl_inv {w : World} {A : Avoid} {x : Value} {k : Nat} {es : List PV} (h : RepP w A [x] (.sl k es)) :
    (es = [] ∧ ∃ a c, x = .slice a 0 c) ∨ ∃ b off c, x = .slice (some ⟨b, off, none⟩) es.length c ∧ es.length ≤ c ∧ ∀ i e, es[i]? = some e → ∃ vs, vs.length = k ∧ RepP w A vs e ∧ Cells w A b (off + i * k) vs := by
  generalize hv : [x] = vs at h
  cases h with
  | sln => injection hv with hv; exact .inl ⟨rfl, _, _, hv⟩
  | sl g hn hc hk hr hcells =>
    injection hv with hv
    refine .inr ⟨_, _, _, by rw [hv, hn], by rw [hn]; exact hc, fun i e he => ?_⟩
    have hi : i < es.length := (List.getElem?_eq_some_iff.1 he).1
    exact ⟨g i, hk i (hn ▸ hi), hr i e he, hcells i (hn ▸ hi)⟩

theorem RepV.slt_val {w : World} {A : Avoid} {m : Nat → Reg} {H : Nat → AObj} {x : Value} {tok k : Nat} {es : List PV} (h : RepV w A m H x (.slt tok k es)) :
    RepP w A [x] (.sl k es) ∧ ∀ n, H tok = .tail n → es.length ≤ n ∧ (n = es.length → Conn (m tok) k x) := by
  have h1 := h.single rfl rfl
  generalize hv : [x] = vs at h1
  cases h1 with
  | slt h2 ht => injection hv with hv; subst hv; exact ⟨h2, ht⟩

theorem does_indexAddr_sl {t el : TypeId} {x i : Operand} {k : IntKind} {n : Int} {sz : Nat} {es : List PV} {ag : Bool} {g : PV} (ho : o.op = .indexAddr t x i) (hd : dstOk s o.dst) (hi : s.ev i = .p (.v (.int k n))) (h0 : 0 ≤ n)
    (hx : s.ev x = .p (.sl sz es) ∨ ∃ tok, s.ev x = .slt tok sz es) (he : elOf P t = some el) (hl : ldOf P el = some (ag, sz)) (hg : es[n.toNat]? = some g) {tc : List (Nat × AObj)} : Does P o s { v := .pp g, touch := tc } :=
  Does.pure hd fun w F m a hs => by
    have h1 := hs.eval x
    have h2 := hs.eval i
    rw [hi] at h2
    have e2 := h2.pv
    have h3 : RepP w (St.av F m s.H) [a.eval x] (.sl sz es) := by
      rcases hx with hx | ⟨tok, hx⟩ <;> rw [hx] at h1
      · have := h1.p_val
        simpa [AV.isAgg] using this
      · exact h1.slt_val.1
    have hlt : n.toNat < es.length := (List.getElem?_eq_some_iff.1 hg).1
    rcases h3.sl_inv with ⟨rfl, _⟩ | ⟨b, off, c, e1, _, h4⟩
    · simp at hlt
    · obtain ⟨vs, _, h5, h6⟩ := h4 _ _ hg
      refine ⟨_, ?_, RepV.of_pp h5 h6⟩
      have := run_indexAt_slice he hl w b off es.length c k h0 hlt
      simp only [execOp, ho, e1, e2, Sem.run_bind, this, Result.andThen_ok]
      rfl

theorem Shape.sizeL_uni {k : Nat} {fs : List Shape} : ∀ {i : Nat}, (∀ f ∈ fs, f.size = k) → i ≤ fs.length → Shape.sizeL (fs.take i) = i * k := by
  induction fs with
  | nil => intro i _ hi; simp at hi; subst hi; simp [Shape.sizeL]
  | cons f fs ih =>
    intro i h hi
    cases i with
    | zero => simp [Shape.sizeL]
    | succ i =>
      have := ih (fun g hg => h g (by simp [hg])) (i := i) (by simpa using hi)
      simp only [List.take_succ_cons, Shape.sizeL, this, h f (by simp), Nat.succ_mul]
      omega
theorem Shape.uni_off {k i : Nat} {sh : Shape} (h : sh.uni k) (hi : ∀ fs, sh = .st fs → i ≤ fs.length) : Shape.off [i] sh = i * k := by
  cases sh with
  | one => exact h.elim
  | blob n => exact h.elim
  | arr n => have : k = 1 := h; subst this; simp [Shape.off]
  | st fs =>
    simp only [Shape.off, Nat.add_zero]
    exact Shape.sizeL_uni h (hi fs rfl)
end
end Go.Av
end

section
/- Abstract values: the model's operations do what their effects say: places in arrays, slices of slices, text, literals, lengths. -/
namespace Go.Av
open Go
set_option linter.unusedVariables false
set_option linter.unusedSimpArgs false
set_option linter.unusedSectionVars false
variable [Globs]

section
variable {P : Program} {o : Oper} {s : St}

theorem AV.cnt_shape {c : AV} {i : Nat} (h : i < c.cnt) : ∀ fs, c.shape = .st fs → i ≤ fs.length := by
  intro fs hf
  cases c with
  | p x =>
    cases x with
    | st es => simp only [AV.shape, PV.shape, Shape.st.injEq] at hf; subst hf; simp [AV.cnt] at h; rw [PV.shapeL_map]; simp; omega
    | _ => simp [AV.shape, PV.shape] at hf
  | st es => simp only [AV.shape, Shape.st.injEq] at hf; subst hf; simp [AV.cnt] at h; rw [AV.shapeL_map]; simp; omega
  | any n => simp [AV.cnt] at h
  | _ => simp [AV.cnt] at h

theorem RepV.osl_val {w : World} {A : Avoid} {m : Nat → Reg} {H : Nat → AObj} {x : Value} {id k n : Nat} {path : List Nat} {ty : TypeId} {c : AV} (h : RepV w A m H x (.osl id path k n)) (hh : H id = .row ty c) :
    ∃ cap, n ≤ cap ∧ Shape.cnt path c.shape ≤ cap ∧ x = .slice (some ⟨(m id).b, c.shape.off path, none⟩) n cap := by
  have h1 := h.single rfl rfl
  generalize hv : [x] = vs at h1
  cases h1 with
  | osl h2 h3 => injection hv with hv; subst hv; exact h3 ty c hh

theorem does_indexAddr_osl {t el ty : TypeId} {x i : Operand} {k : IntKind} {n : Int} {id sz len : Nat} {path : List Nat} {c c' : AV} {ag : Bool} (ho : o.op = .indexAddr t x i) (hd : dstOk s o.dst) (hi : s.ev i = .p (.v (.int k n))) (h0 : 0 ≤ n)
    (hx : s.ev x = .osl id path sz len) (hH : s.H id = .row ty c) (hg : c.get? path = some c') (hu : c'.shape.uni sz) (hc : n.toNat < c'.cnt) (he : elOf P t = some el) (hl : ldOf P el = some (ag, sz)) (hn : n.toNat < len) {tc : List (Nat × AObj)} :
    Does P o s { v := .ptr id (path ++ [n.toNat]), touch := tc } :=
  Does.pure hd fun w F m a hs => by
    have h1 := hs.eval x
    have h2 := hs.eval i
    rw [hi] at h2
    rw [hx] at h1
    have e2 := h2.pv
    obtain ⟨cap, _, _, e1⟩ := h1.osl_val hH
    have e3 := Shape.off_append path (i := n.toNat) trivial rfl hg
    rw [Shape.uni_off hu (AV.cnt_shape hc)] at e3
    refine ⟨.pointer (some ⟨(m id).b, c.shape.off (path ++ [n.toNat]), none⟩), ?_, RepV.of_ptr hH⟩
    have := run_indexAt_slice he hl w (m id).b (c.shape.off path) len cap k h0 hn
    simp only [execOp, ho, e1, e2, Sem.run_bind, this, Result.andThen_ok, e3]
    rfl

theorem does_indexAddr_ptr {t el ty : TypeId} {x i : Operand} {k : IntKind} {n : Int} {id sz len : Nat} {path : List Nat} {c c' : AV} {ag : Bool} (ho : o.op = .indexAddr t x i) (hd : dstOk s o.dst) (hi : s.ev i = .p (.v (.int k n))) (h0 : 0 ≤ n)
    (hx : s.ev x = .ptr id path) (hH : s.H id = .row ty c) (hg : c.get? path = some c') (hu : c'.shape.uni sz) (hc : n.toNat < c'.cnt) (he : arOf P t = some (len, el)) (hl : ldOf P el = some (ag, sz)) (hn : n.toNat < len) {tc : List (Nat × AObj)} :
    Does P o s { v := .ptr id (path ++ [n.toNat]), touch := tc } :=
  Does.pure hd fun w F m a hs => by
    have h1 := hs.eval x
    have h2 := hs.eval i
    rw [hi] at h2
    rw [hx] at h1
    have e2 := h2.pv
    have e1 := h1.ptr_val hH
    have e3 := Shape.off_append path (i := n.toNat) trivial rfl hg
    rw [Shape.uni_off hu (AV.cnt_shape hc)] at e3
    refine ⟨.pointer (some ⟨(m id).b, c.shape.off (path ++ [n.toNat]), none⟩), ?_, RepV.of_ptr hH⟩
    have := run_indexAt_array he hl w (m id).b (c.shape.off path) k h0 hn
    simp only [execOp, ho, e1, e2, Sem.run_bind, this, Result.andThen_ok, e3]
    rfl

theorem PV.get?_st {y : PV} {i : Nat} {g : PV} (h : y.get? [i] = some g) : ∀ fs, y.shape = .st fs → i ≤ fs.length := by
  intro fs hf
  cases y with
  | st es =>
    simp only [PV.shape, Shape.st.injEq] at hf
    subst hf
    simp only [PV.get?] at h
    split at h
    · rename_i f hf
      have := (List.getElem?_eq_some_iff.1 hf).1
      rw [PV.shapeL_map]
      simp
      omega
    · cases h
  | _ => simp [PV.shape] at hf

theorem does_indexAddr_pp {t el : TypeId} {x i : Operand} {k : IntKind} {n : Int} {sz len : Nat} {y g : PV} {ag : Bool} (ho : o.op = .indexAddr t x i) (hd : dstOk s o.dst) (hi : s.ev i = .p (.v (.int k n))) (h0 : 0 ≤ n)
    (hx : s.ev x = .pp y) (hg : y.get? [n.toNat] = some g) (hu : y.shape.uni sz) (he : arOf P t = some (len, el)) (hl : ldOf P el = some (ag, sz)) (hn : n.toNat < len) {tc : List (Nat × AObj)} :
    Does P o s { v := .pp g, touch := tc } :=
  Does.pure hd fun w F m a hs => by
    have h1 := hs.eval x
    have h2 := hs.eval i
    rw [hi] at h2
    rw [hx] at h1
    have e2 := h2.pv
    obtain ⟨b, p, vs, e1, h3, h4⟩ := h1.pp_val
    obtain ⟨a1, us, r, rfl, hl1, hr, _⟩ := h3.at_ [n.toNat] hg
    rw [Shape.uni_off hu (PV.get?_st hg)] at hl1
    have hcells : Cells w (St.av F m s.H) b (p + n.toNat * sz) us := fun j z hj => by
      have hlt := (List.getElem?_eq_some_iff.1 hj).1
      have := h4 (a1.length + j) z (by rw [List.append_assoc, List.getElem?_append_right (by omega), Nat.add_sub_cancel_left, List.getElem?_append_left hlt]; exact hj)
      rw [hl1] at this
      rwa [← Nat.add_assoc] at this
    refine ⟨_, ?_, RepV.of_pp hr hcells⟩
    have := run_indexAt_array he hl w b p k h0 hn
    simp only [execOp, ho, e1, e2, Sem.run_bind, this, Result.andThen_ok]
    rfl

theorem does_index_ints {t el : TypeId} {x i : Operand} {k k' : IntKind} {n u : Int} {len : Nat} {l : List Int} (ho : o.op = .index t x i) (hd : dstOk s o.dst) (hi : s.ev i = .p (.v (.int k n))) (h0 : 0 ≤ n)
    (hx : s.ev x = .p (.ints k' len l)) (he : arOf P t = some (len, el)) (hl : ldOf P el = some (false, 1)) (hg : l[n.toNat]? = some u) {tc : List (Nat × AObj)} : Does P o s { v := .p (.v (.int k' u)), touch := tc } :=
  Does.pure hd fun w F m a hs => by
    have h1 := hs.eval x
    have h2 := hs.eval i
    rw [hi] at h2
    rw [hx] at h1
    have e2 := h2.pv
    have h1 := h1.p_val
    simp only [AV.isAgg, if_true] at h1
    obtain ⟨vs, e1, h3⟩ := h1
    generalize hX : PV.ints k' len l = X at h3
    cases h3 with
    | ints hlen =>
      injection hX with hk hn hll
      subst hk; subst hn; subst hll
      have hlt := (List.getElem?_eq_some_iff.1 hg).1
      obtain ⟨h4, h5⟩ := ldOf_run hl w
      refine ⟨_, ?_, RepV.of_v rfl⟩
      simp only [execOp, ho, e1, e2, Instr.index, asIntOf, Sem.run_bind, Sem.run_pure, Result.andThen_ok, run_underlying (ar_run he)]
      rw [if_pos ⟨h0, by omega⟩]
      simp [h5, part, h4, hg]
    | _ => cases hX

theorem does_index_string {t : TypeId} {x i : Operand} {k : IntKind} {n : Int} {str : ByteArray} {u : UInt8} (ho : o.op = .index t x i) (hd : dstOk s o.dst) (hi : s.ev i = .p (.v (.int k n))) (h0 : 0 ≤ n)
    (hx : s.ev x = .p (.v (.string str))) (ht : isStr P t = true) (hg : str.data.toList[n.toNat]? = some u) {tc : List (Nat × AObj)} : Does P o s { v := .p (.v (.int .u8 u.toNat)), touch := tc } :=
  Does.pure hd fun w F m a hs => by
    have h1 := hs.eval x
    have h2 := hs.eval i
    rw [hi] at h2
    rw [hx] at h1
    have e2 := h2.pv
    have e1 := h1.pv
    have hu : P.underlying t = some .string := by unfold isStr at ht; split at ht <;> simp_all
    have hg' : str[n.toNat]? = some u := by
      have := (List.getElem?_eq_some_iff.1 hg)
      obtain ⟨h3, h4⟩ := this
      have hlt : n.toNat < str.size := by simpa using h3
      rw [getElem?_pos str n.toNat hlt]
      congr 1
    refine ⟨_, ?_, RepV.of_v rfl⟩
    simp only [execOp, ho, e1, e2, Instr.index, asIntOf, Sem.run_bind, Sem.run_pure, Result.andThen_ok, run_underlying hu, if_pos h0, hg']

theorem does_extract {x : Operand} {i : Nat} {vs : List AV} {b : AV} (ho : o.op = .extract x i) (hd : dstOk s o.dst) (hx : s.ev x = .tup vs) (hg : vs[i]? = some b) {tc : List (Nat × AObj)} : Does P o s { v := b, touch := tc } :=
  Does.pure hd fun w F m a hs => by
    have h1 := hs.eval x
    rw [hx] at h1
    generalize hv : a.eval x = vx at h1
    cases h1 with
    | one h hs => 
      generalize hz : [vx] = l at h
      cases h
    | agg h hs => simp [AV.isAgg] at hs
    | tup hl h =>
      rename_i xs
      have hlt := (List.getElem?_eq_some_iff.1 hg).1
      refine ⟨xs[i]'(by omega), ?_, h i _ _ (List.getElem?_eq_getElem (by omega)) hg⟩
      simp [execOp, ho, hv, Instr.extract, List.getElem?_eq_getElem (show i < xs.length by omega)]

theorem does_min {c : Call} {x y : Operand} {k : IntKind} {u v : Int} (ho : o.op = .call c) (hc : c.callee = .builtin .min) (ha : c.args = #[x, y]) (hd : dstOk s o.dst) (hx : s.ev x = .p (.v (.int k u))) (hy : s.ev y = .p (.v (.int k v))) {tc : List (Nat × AObj)} :
    Does P o s { v := .p (.v (.int k (if v < u then v else u))), touch := tc } :=
  Does.pure hd fun w F m a hs => by
    have h1 := hs.eval x
    have h2 := hs.eval y
    rw [hx] at h1
    rw [hy] at h2
    refine ⟨_, ?_, RepV.of_v rfl⟩
    simp [execOp, ho, resolve, hc, ha, invoke, builtin, Builtin.min_, Builtin.min2, h1.pv, h2.pv]
theorem does_max {c : Call} {x y : Operand} {k : IntKind} {u v : Int} (ho : o.op = .call c) (hc : c.callee = .builtin .max) (ha : c.args = #[x, y]) (hd : dstOk s o.dst) (hx : s.ev x = .p (.v (.int k u))) (hy : s.ev y = .p (.v (.int k v))) {tc : List (Nat × AObj)} :
    Does P o s { v := .p (.v (.int k (if v > u then v else u))), touch := tc } :=
  Does.pure hd fun w F m a hs => by
    have h1 := hs.eval x
    have h2 := hs.eval y
    rw [hx] at h1
    rw [hy] at h2
    refine ⟨_, ?_, RepV.of_v rfl⟩
    simp [execOp, ho, resolve, hc, ha, invoke, builtin, Builtin.max_, Builtin.max2, h1.pv, h2.pv]

theorem does_len_of {c : Call} {x : Operand} {el t : TypeId} {n : Nat} (ho : o.op = .call c) (hc : c.callee = .builtin .len) (ha : c.args = #[x]) (hd : dstOk s o.dst) (hn : c.argTypes = #[t]) (ht : elOf P t = some el)
    (h : ∀ (w : World) (F : Avoid) (m : Nat → Reg) (a : Act), Sim w F m s a.tmps → ∃ ad cap, a.eval x = .slice ad n cap) {tc : List (Nat × AObj)} : Does P o s { v := .p (.v (.int .i64 n)), touch := tc } :=
  Does.pure hd fun w F m a hs => by
    obtain ⟨ad, cap, e⟩ := h w F m a hs
    refine ⟨_, ?_, RepV.of_v rfl⟩
    simp [execOp, ho, resolve, hc, ha, invoke, builtin, Builtin.len_, hn, e, run_underlying (el_run ht), goInt]

theorem does_len_str {c : Call} {x : Operand} {str : ByteArray} {t : TypeId} (ho : o.op = .call c) (hc : c.callee = .builtin .len) (ha : c.args = #[x]) (hd : dstOk s o.dst) (hn : c.argTypes = #[t]) (ht : isStr P t = true)
    (hx : s.ev x = .p (.v (.string str))) {tc : List (Nat × AObj)} : Does P o s { v := .p (.v (.int .i64 str.size)), touch := tc } :=
  Does.pure hd fun w F m a hs => by
    have h1 := hs.eval x
    rw [hx] at h1
    have hu : P.underlying t = some .string := by unfold isStr at ht; split at ht <;> simp_all
    refine ⟨_, ?_, RepV.of_v rfl⟩
    simp [execOp, ho, resolve, hc, ha, invoke, builtin, Builtin.len_, hn, h1.pv, run_underlying hu, goInt]
end
end Go.Av
end

section
/- Abstract values: the model's operations do what their effects say: slices of slices, text of bytes. -/
namespace Go.Av
open Go
set_option linter.unusedVariables false
set_option linter.unusedSimpArgs false
set_option linter.unusedSectionVars false
variable [Globs]

section
variable {P : Program} {o : Oper} {s : St}

/-- A bound of a slice expression, as the operands say it. -/
theorem bound_run {w : World} {x : Value} {k : IntKind} {i : Int} {n y : Nat} (hx : x = .int k i) (h0 : 0 ≤ i) (hn : n = i.toNat) (hy : n ≤ y) (code : BoundsCode) : (Instr.sliceBound x y code).run P w = .ok n w := by
  subst hx; subst hn
  simp only [Instr.sliceBound, asIntOf, Sem.run_bind, Sem.run_pure, Result.andThen_ok]
  rw [if_pos ⟨h0, by omega⟩]
  rfl

def optVal (a : Act) (x : Option Operand) : Option Value := x.map a.eval

theorem boundOf_val {w : World} {F : Avoid} {m : Nat → Reg} {a : Act} (hs : Sim w F m s a.tmps) {x : Option Operand} {d n : Nat} (h : aEff.boundOf (x.map s.ev) d n) :
    (x = none ∧ n = d) ∨ ∃ y k i, x = some y ∧ a.eval y = .int k i ∧ 0 ≤ i ∧ n = i.toNat := by
  cases x with
  | none => exact .inl ⟨rfl, h⟩
  | some y =>
    simp only [Option.map_some, aEff.boundOf] at h
    have h1 := hs.eval y
    split at h
    · rename_i hq; cases hq
    · rename_i k i hq
      injection hq with hq
      rw [hq] at h1
      exact .inr ⟨y, _, _, rfl, h1.pv, h.1, h.2⟩
    · exact h.elim

theorem run_slice_two {t el : TypeId} {sz n c l h : Nat} {ag : Bool} {ad : Option Addr} (he : elOf P t = some el) (hl : ldOf P el = some (ag, sz)) (w : World) (lo hi : Option Value)
    (h1 : (lo = none ∧ l = 0) ∨ ∃ k i, lo = some (.int k i) ∧ 0 ≤ i ∧ l = i.toNat) (h2 : (hi = none ∧ h = n) ∨ ∃ k i, hi = some (.int k i) ∧ 0 ≤ i ∧ h = i.toNat) (hlh : l ≤ h) (hhn : h ≤ n) (hnc : n ≤ c) :
    (Instr.slice t (.slice ad n c) lo hi none).run P w = .ok (.slice (if c = l then ad else ad.map (·.add (l * sz))) (h - l) (c - l)) w := by
  have hz := (ldOf_run hl w).2
  simp only [Instr.slice, Sem.run_bind, run_underlying (el_run he), Result.andThen_ok, Instr.sliceBounds]
  rcases h1 with ⟨rfl, rfl⟩ | ⟨k1, i1, rfl, p1, q1⟩ <;> rcases h2 with ⟨rfl, rfl⟩ | ⟨k2, i2, rfl, p2, q2⟩
  · simp [hz]
  · have := bound_run (P := P) (w := w) (x := .int k2 i2) rfl p2 q2 (show h ≤ c by omega) .sliceAcap
    simp [this, hz]
  · have := bound_run (P := P) (w := w) (x := .int k1 i1) rfl p1 q1 hlh .sliceB
    simp [this, hz]
  · have e1 := bound_run (P := P) (w := w) (x := .int k1 i1) rfl p1 q1 hlh .sliceB
    have e2 := bound_run (P := P) (w := w) (x := .int k2 i2) rfl p2 q2 (show h ≤ c by omega) .sliceAcap
    simp [e2, e1, hz]

theorem RepP.sl_inv' {w : World} {A : Avoid} {x : Value} {k : Nat} {es : List PV} (h : RepP w A [x] (.sl k es)) :
    (es = [] ∧ ∃ a c, x = .slice a 0 c) ∨ ∃ (b off c : Nat) (g : Nat → List Value), x = .slice (some ⟨b, off, none⟩) es.length c ∧ es.length ≤ c ∧ (∀ i, i < es.length → (g i).length = k) ∧
      (∀ i e, es[i]? = some e → RepP w A (g i) e) ∧ ∀ i, i < es.length → Cells w A b (off + i * k) (g i) := by
  generalize hv : [x] = vs at h
  cases h with
  | sln => injection hv with hv; exact .inl ⟨rfl, _, _, hv⟩
  | sl g hn hc hk hr hcells =>
    injection hv with hv
    subst hn
    exact .inr ⟨_, _, _, g, hv, hc, hk, hr, hcells⟩

/-- A part of a slice. -/
theorem RepP.sub' {w : World} {A : Avoid} {ad : Option Addr} {n c k l h : Nat} {es : List PV} (hr : RepP w A [.slice ad n c] (.sl k es)) (hlh : l ≤ h) (hh : h ≤ es.length) (c' : Nat) (hc : h - l ≤ c') :
    RepP w A [.slice (if c = l then ad else ad.map (·.add (l * k))) (h - l) c'] (.sl k ((es.take h).drop l)) := by
  rcases hr.sl_inv' with ⟨rfl, a, c1, e⟩ | ⟨b, off, c1, g, e, h1, h2, h3, h4⟩
  · have h0 : h = 0 := by simpa using hh
    subst h0
    have h0 : l = 0 := by omega
    subst h0
    simpa using RepP.sln
  · injection e with e1 e2 e3
    subst e1; subst e2; subst e3
    by_cases hz : h - l = 0
    · have : (es.take h).drop l = [] := by
        apply List.eq_nil_of_length_eq_zero
        simp
        omega
      rw [hz, this]
      exact .sln
    · rw [if_neg (by omega)]
      simp only [Option.map_some, Addr.add_lit]
      refine .sl (fun i => g (l + i)) (by simp; omega) hc (fun i hi => h2 _ (by omega)) (fun i e' he => ?_) (fun i hi => ?_)
      · have hlt := (List.getElem?_eq_some_iff.1 he).1
        simp at hlt
        rw [List.getElem?_drop, List.getElem?_take_of_lt (by omega)] at he
        exact h3 _ _ he
      · have := h4 (l + i) (by omega)
        rwa [show off + (l + i) * k = off + l * k + i * k by rw [Nat.add_mul]; omega] at this

theorem RepP.sl_form {w : World} {A : Avoid} {x : Value} {k : Nat} {es : List PV} (h : RepP w A [x] (.sl k es)) : ∃ ad c, x = .slice ad es.length c ∧ (es.length ≤ c) := by
  rcases h.sl_inv with ⟨rfl, a, c, e⟩ | ⟨b, off, c1, e, h1, h2⟩
  · exact ⟨a, c, e, Nat.zero_le _⟩
  · exact ⟨_, _, e, h1⟩

theorem RepV.sl_of {w : World} {A : Avoid} {m : Nat → Reg} {H : Nat → AObj} {x : Value} {k : Nat} {es : List PV} {a : AV} (h : RepV w A m H x a) (ha : a = .p (.sl k es) ∨ ∃ tok, a = .slt tok k es) : RepP w A [x] (.sl k es) := by
  rcases ha with rfl | ⟨tok, rfl⟩
  · have := h.p_val
    simpa [AV.isAgg] using this
  · exact h.slt_val.1

theorem execOp_slice (a : Act) {t : TypeId} {x : Operand} {lo hi mx : Option Operand} (ho : o.op = .slice t x lo hi mx) : execOp a.eval o = (do pure (Next.value (← Instr.sliceAt t (a.eval x) (lo.map a.eval) (hi.map a.eval) (mx.map a.eval)))) := by
  simp only [execOp, ho]

theorem run_sliceAt_slice {t el : TypeId} (he : elOf P t = some el) (x : Value) (lo hi mx : Option Value) (w : World) : (Instr.sliceAt t x lo hi mx).run P w = (Instr.slice t x lo hi mx).run P w := by
  simp only [Instr.sliceAt, Sem.run_bind, run_underlying (el_run he), Result.andThen_ok]

theorem does_slice_sl {t el : TypeId} {x : Operand} {lo hi : Option Operand} {sz a b : Nat} {es : List PV} {ag : Bool} (ho : o.op = .slice t x lo hi none) (hd : dstOk s o.dst) (hx : s.ev x = .p (.sl sz es) ∨ ∃ tok, s.ev x = .slt tok sz es)
    (he : elOf P t = some el) (hl : ldOf P el = some (ag, sz)) (h1 : aEff.boundOf (lo.map s.ev) 0 a) (h2 : aEff.boundOf (hi.map s.ev) es.length b) (hab : a ≤ b) (hb : b ≤ es.length) {tc : List (Nat × AObj)} :
    Does P o s { v := .p (.sl sz ((es.take b).drop a)), touch := tc } :=
  Does.pure hd fun w F m act hs => by
    have hr := (hs.eval x).sl_of hx
    obtain ⟨ad, c, e1, hc⟩ := hr.sl_form
    rw [e1] at hr
    have g1 := boundOf_val hs h1
    have g2 := boundOf_val hs h2
    refine ⟨.slice (if c = a then ad else ad.map (·.add (a * sz))) (b - a) (c - a), ?_, .one (.p (hr.sub' hab hb _ (by omega))) rfl⟩
    rw [execOp_slice act ho, Sem.run_bind, run_sliceAt_slice he, e1]
    have := run_slice_two (P := P) (n := es.length) (c := c) (l := a) (h := b) (ad := ad) he hl w (lo.map act.eval) (hi.map act.eval)
      (by rcases g1 with ⟨rfl, g1⟩ | ⟨y, k, i, rfl, g1, g3, g4⟩
          · exact .inl ⟨rfl, g1⟩
          · exact .inr ⟨k, i, by simp [g1], g3, g4⟩)
      (by rcases g2 with ⟨rfl, g2⟩ | ⟨y, k, i, rfl, g2, g3, g4⟩
          · exact .inl ⟨rfl, g2⟩
          · exact .inr ⟨k, i, by simp [g2], g3, g4⟩) hab hb hc
    rw [show Option.map act.eval (none : Option Operand) = none from rfl, this]
    rfl

theorem does_slice_nil {t el : TypeId} {x : Operand} {lo hi : Option Operand} {sz : Nat} {ag : Bool} (ho : o.op = .slice t x lo hi none) (hd : dstOk s o.dst) (hx : s.ev x = .p (.v (.slice none 0 0)))
    (he : elOf P t = some el) (hl : ldOf P el = some (ag, sz)) (h1 : aEff.boundOf (lo.map s.ev) 0 0) (h2 : aEff.boundOf (hi.map s.ev) 0 0) {tc : List (Nat × AObj)} :
    Does P o s { v := .p (.v (.slice none 0 0)), touch := tc } :=
  Does.pure hd fun w F m act hs => by
    have h3 := hs.eval x
    rw [hx] at h3
    have e1 := h3.pv
    have g1 := boundOf_val hs h1
    have g2 := boundOf_val hs h2
    refine ⟨_, ?_, RepV.of_v rfl⟩
    rw [execOp_slice act ho, Sem.run_bind, run_sliceAt_slice he, e1]
    have := run_slice_two (P := P) (n := 0) (c := 0) (l := 0) (h := 0) (ad := none) he hl w (lo.map act.eval) (hi.map act.eval)
      (by rcases g1 with ⟨rfl, g1⟩ | ⟨y, k, i, rfl, g1, g3, g4⟩
          · exact .inl ⟨rfl, g1⟩
          · exact .inr ⟨k, i, by simp [g1], g3, g4⟩)
      (by rcases g2 with ⟨rfl, g2⟩ | ⟨y, k, i, rfl, g2, g3, g4⟩
          · exact .inl ⟨rfl, g2⟩
          · exact .inr ⟨k, i, by simp [g2], g3, g4⟩) (Nat.le_refl _) (Nat.le_refl _) (Nat.le_refl _)
    rw [show Option.map act.eval (none : Option Operand) = none from rfl, this]
    rfl

theorem does_slice_arr {t el ty : TypeId} {x : Operand} {id sz len : Nat} {path : List Nat} {c c' : AV} {ag : Bool} (ho : o.op = .slice t x none none none) (hd : dstOk s o.dst) (hx : s.ev x = .ptr id path) (hH : s.H id = .row ty c)
    (he : arOf P t = some (len, el)) (hl : ldOf P el = some (ag, sz)) (hcn : Shape.cnt path c.shape ≤ len) {tc : List (Nat × AObj)} : Does P o s { v := .osl id path sz len, touch := tc } :=
  Does.pure hd fun w F m act hs => by
    have h3 := hs.eval x
    rw [hx] at h3
    have e1 := h3.ptr_val hH
    have hz := (ldOf_run hl w).2
    refine ⟨.slice (some ⟨(m id).b, c.shape.off path, none⟩) len len, ?_, .one (.osl rfl fun e0 c0 h0 => ?_) rfl⟩
    · rw [execOp_slice act ho]
      simp only [Instr.sliceAt, Sem.run_bind, run_underlying (ar_run he), Result.andThen_ok, e1, Instr.sureAddr, Instr.sliceBounds, Sem.run_pure, hz, Option.map_none]
      simp [Addr.add]
    · rw [hH] at h0
      injection h0 with _ h0
      subst h0
      exact ⟨len, Nat.le_refl _, hcn, rfl⟩
end
end Go.Av
end

section
/- Abstract values: a slice that grows: in place, where its room is its own, or to a new place. -/
namespace Go.Av
open Go
set_option linter.unusedVariables false
set_option linter.unusedSimpArgs false
set_option linter.unusedSectionVars false
variable [Globs]

/-! ### rows of elements -/
theorem flat_length {n k : Nat} {g : Nat → List Value} (hk : ∀ i, i < n → (g i).length = k) : ((List.range n).flatMap g).length = n * k := by
  induction n with
  | zero => simp
  | succ n ih =>
    rw [List.range_succ, List.flatMap_append, List.length_append, ih fun i hi => hk i (by omega)]
    simp [hk n (by omega), Nat.succ_mul]
theorem flat_get {n k : Nat} {g : Nat → List Value} (hk : ∀ i, i < n → (g i).length = k) {i j : Nat} (hi : i < n) (hj : j < k) : ((List.range n).flatMap g)[i * k + j]? = (g i)[j]? := by
  induction n with
  | zero => omega
  | succ n ih =>
    have hl := flat_length (n := n) fun i hi => hk i (by omega)
    rw [List.range_succ, List.flatMap_append]
    by_cases h : i < n
    · rw [List.getElem?_append_left, ih (fun i hi => hk i (by omega)) h]
      rw [hl]
      have : (i + 1) * k ≤ n * k := Nat.mul_le_mul_right _ h
      rw [Nat.succ_mul] at this
      omega
    · have : i = n := by omega
      subst this
      rw [List.getElem?_append_right (by omega), hl]
      simp
theorem flat_mem {n k : Nat} {g : Nat → List Value} (hk : ∀ i, i < n → (g i).length = k) {q : Nat} {x : Value} (h : ((List.range n).flatMap g)[q]? = some x) : q / k < n ∧ q % k < k ∧ (g (q / k))[q % k]? = some x := by
  have hlt := (List.getElem?_eq_some_iff.1 h).1
  rw [flat_length hk] at hlt
  have hk0 : 0 < k := by rcases Nat.eq_zero_or_pos k with h0 | h0; · subst h0; simp at hlt
                         · exact h0
  have h1 : q / k < n := Nat.div_lt_of_lt_mul (by rw [Nat.mul_comm]; exact hlt)
  have h2 : q % k < k := Nat.mod_lt _ hk0
  refine ⟨h1, h2, ?_⟩
  have := flat_get hk h1 h2
  rw [show q / k * k + q % k = q from by rw [Nat.mul_comm]; exact Nat.div_add_mod q k] at this
  rw [← this]
  exact h

/-- What stands in a slice's elements, cell by cell; owned or not. -/
structure Src (w : World) (A : Avoid) (x : Value) (k : Nat) (xs : List PV) (g : Nat → List Value) : Prop where
  form : ∃ ad c, x = .slice ad xs.length c ∧ (0 < xs.length → ∃ b off, ad = some ⟨b, off, none⟩ ∧ ∀ i j y, i < xs.length → (g i)[j]? = some y → w.cell? ⟨b, off + i * k + j, none⟩ = some y)
  len : ∀ i, i < xs.length → (g i).length = k
  rep : ∀ (i : Nat) e, xs[i]? = some e → RepP w A (g i) e

theorem Src.of_sl {w : World} {A : Avoid} {x : Value} {k : Nat} {xs : List PV} (h : RepP w A [x] (.sl k xs)) : ∃ g, Src w A x k xs g := by
  rcases h.sl_inv' with ⟨rfl, a, c, e⟩ | ⟨b, off, c, g, e, h1, h2, h3, h4⟩
  · exact ⟨fun _ => [], ⟨a, c, e, fun h => absurd h (by simp)⟩, fun i hi => absurd hi (by simp), fun i e he => absurd he (by simp)⟩
  · exact ⟨g, ⟨_, c, e, fun _ => ⟨b, off, rfl, fun i j y hi hj => (h4 i hi j y hj).1⟩⟩, h2, h3⟩

theorem RepP.ints_at {w : World} {A : Avoid} {vs : List Value} {k : IntKind} {n : Nat} {l : List Int} (h : RepP w A vs (.ints k n l)) : vs = l.map (Value.int k) ∧ l.length = n := by
  generalize hX : PV.ints k n l = X at h
  cases h with
  | ints hl => injection hX with h1 h2 h3; subst h1; subst h2; subst h3; exact ⟨rfl, hl⟩
  | _ => cases hX

theorem RepP.st_parts {w : World} {A : Avoid} {k : Nat} {es : List PV} : ∀ {vs : List Value}, RepP w A vs (.st es) → (∀ e ∈ es, e.size = k) →
    ∃ g : Nat → List Value, (∀ i, i < es.length → (g i).length = k) ∧ (∀ (i : Nat) e, es[i]? = some e → RepP w A (g i) e) ∧ ∀ i j y, i < es.length → (g i)[j]? = some y → vs[i * k + j]? = some y := by
  induction es with
  | nil => intro vs _ _; exact ⟨fun _ => [], fun i hi => absurd hi (by simp), fun i e he => absurd he (by simp), fun i j y hi => absurd hi (by simp)⟩
  | cons e es ih =>
    intro vs h hk
    obtain ⟨us, ws, rfl, h1, h2⟩ := h.st_inv
    obtain ⟨g, g1, g2, g3⟩ := ih h2 fun e he => hk e (by simp [he])
    have hl : us.length = k := by rw [h1.len]; exact hk e (by simp)
    refine ⟨fun i => match i with | 0 => us | i + 1 => g i, fun i hi => ?_, fun i e' he => ?_, fun i j y hi hj => ?_⟩
    · cases i with
      | zero => exact hl
      | succ i => exact g1 i (by simpa using hi)
    · cases i with
      | zero => simp at he; subst he; exact h1
      | succ i => exact g2 i e' (by simpa using he)
    · cases i with
      | zero =>
        have hlt := (List.getElem?_eq_some_iff.1 hj).1
        simp only [Nat.zero_mul, Nat.zero_add]
        rw [List.getElem?_append_left hlt]
        exact hj
      | succ i =>
        have := g3 i j y (by simpa using hi) hj
        rw [List.getElem?_append_right (by rw [hl, Nat.succ_mul]; omega), hl, Nat.succ_mul, show i * k + k + j - k = i * k + j by omega]
        exact this

/-- The elements of a row of its own. -/
theorem RepC.elems {w : World} {A : Avoid} {m : Nat → Reg} {H : Nat → AObj} {k : Nat} {c : AV} {xs : List PV} {vs : List Value} (h : RepC w A m H vs c) (he : c.elems = some xs) (hu : c.shape.uni k) :
    ∃ g : Nat → List Value, (∀ i, i < xs.length → (g i).length = k) ∧ (∀ (i : Nat) e, xs[i]? = some e → RepP w A (g i) e) ∧ ∀ i j y, i < xs.length → (g i)[j]? = some y → vs[i * k + j]? = some y := by
  cases c with
  | p x =>
    cases x with
    | ints kk n l =>
      simp only [AV.elems, Option.some.injEq] at he
      subst he
      have : k = 1 := hu
      subst this
      obtain ⟨rfl, _⟩ := h.p_inv.ints_at
      refine ⟨fun i => [.int kk (l.getD i 0)], fun i _ => rfl, fun i e hi => ?_, fun i j y hi hj => ?_⟩
      · simp only [List.getElem?_map] at hi
        cases hl : l[i]? with
        | none => simp [hl] at hi
        | some u => simp [hl] at hi; subst hi; simp only [List.getD_eq_getElem?_getD, hl, Option.getD_some]; exact .v rfl
      · have hj0 : j = 0 := by have := (List.getElem?_eq_some_iff.1 hj).1; simpa using this
        subst hj0
        simp at hi
        simp at hj
        subst hj
        simp [List.getElem?_eq_getElem hi]
    | st es =>
      simp only [AV.elems, Option.some.injEq] at he
      subst he
      refine RepP.st_parts h.p_inv fun e he => ?_
      have hu : ∀ f ∈ PV.shapeL es, f.size = k := hu
      have := hu e.shape (by rw [PV.shapeL_map]; exact List.mem_map_of_mem he)
      rwa [PV.size_shape] at this
    | v x => simp [AV.elems] at he
    | sl k es => simp [AV.elems] at he
  | _ => simp [AV.elems] at he

theorem src_of {w : World} {F : Avoid} {m : Nat → Reg} {s : St} {a : Act} (hs : Sim w F m s a.tmps) {x : Operand} {k : Nat} {xs : List PV} {tc : List (Nat × AObj)} (h : srcOf (s.ev x) k xs tc) (ht : ∀ p ∈ tc, s.H p.1 = p.2) :
    ∃ g, Src w (St.av F m s.H) (a.eval x) k xs g := by
  have hv := hs.eval x
  unfold srcOf at h
  split at h
  · rename_i k' es hx
    obtain ⟨rfl, rfl, rfl⟩ := h
    exact Src.of_sl (hv.sl_of (.inl hx))
  · rename_i tok k' es hx
    obtain ⟨rfl, rfl, rfl⟩ := h
    exact Src.of_sl (hv.sl_of (.inr ⟨tok, hx⟩))
  · rename_i hx
    obtain ⟨rfl, rfl⟩ := h
    rw [hx] at hv
    rw [hv.pv]
    exact Src.of_sl .sln
  · rename_i id path k' n hx
    obtain ⟨ty, c, c', h1, h2, rfl, h4, h5, rfl⟩ := h
    have hH : s.H id = .row ty c := ht (id, .row ty c) (by simp)
    rw [hx] at hv
    obtain ⟨cap, hcap, _, e1⟩ := hv.osl_val hH
    obtain ⟨cs, vs, g1, g2, g3, g4, g5⟩ := hs.heap.row hH
    obtain ⟨a1, us, b1, rfl, hl1, hr1, _⟩ := g5.at_ path h1
    obtain ⟨g, p1, p2, p3⟩ := hr1.elems h2 h4
    refine ⟨g, ⟨_, cap, by rw [e1, h5], fun _ => ⟨_, _, rfl, fun i j y hi hj => ?_⟩⟩, p1, p2⟩
    have := row_cells_at g1 g4 _ _ (p3 i j y hi hj)
    rwa [hl1, ← Nat.add_assoc] at this
  · exact h.elim

section
variable {P : Program} {o : Oper} {s : St}

/-- What is appended, as the model reads it. -/
theorem Src.news {w : World} {A : Avoid} {x : Value} {k : Nat} {xs : List PV} {g : Nat → List Value} (h : Src w A x k xs g) (hk : 0 < k) (hx : 0 < xs.length) :
    ∃ ad c, x = .slice (some ad) xs.length c ∧ ((List.range xs.length).flatMap g).length = xs.length * k ∧ (∀ j u, ((List.range xs.length).flatMap g)[j]? = some u → w.cell? (ad.add j) = some u) ∧ ∀ u ∈ (List.range xs.length).flatMap g, u.oneCell' = true := by
  obtain ⟨⟨ad, c, e, h1⟩, h2, h3⟩ := h
  obtain ⟨b, off, rfl, h4⟩ := h1 hx
  refine ⟨_, c, e, flat_length h2, fun j u hj => ?_, fun u hu => ?_⟩
  · obtain ⟨q1, q2, q3⟩ := flat_mem h2 hj
    have := h4 _ _ _ q1 q3
    rw [Nat.add_assoc, show j / k * k + j % k = j from by rw [Nat.mul_comm]; exact Nat.div_add_mod j k] at this
    rw [Addr.add_lit]
    exact this
  · obtain ⟨i, hi, hu⟩ := List.mem_flatMap.1 hu
    have hi : i < xs.length := by simpa using hi
    exact (h3 i _ (List.getElem?_eq_getElem hi)).one u hu

theorem run_append_room' (w : World) (t ty e e' : TypeId) (i : TypeInfo) (ht : P.underlying t = some (.slice e)) (hi : P.info? e = some i)
    (g off sLen sCap : Nat) (cur : Array Value) (hg : w.heap[g]? = some (.cells cur e' (0, 0)))
    (a : Addr) (m c : Nat) (news : List Value) (hl : news.length = m * i.size) (hnews : ∀ j u, news[j]? = some u → w.cell? (a.add j) = some u) (h1 : ∀ u ∈ news, u.oneCell' = true)
    (hroom : sLen + m ≤ sCap) (hfit : off + sLen * i.size + news.length ≤ cur.size) :
    (Builtin.append_ #[t, t] ty #[.slice (some ⟨g, off, none⟩) sLen sCap, .slice (some a) m c]).run P w =
      .ok (.slice (some ⟨g, off, none⟩) (sLen + m) sCap) (w.setRow g (cur.toList.take (off + sLen * i.size) ++ news ++ cur.toList.drop (off + sLen * i.size + news.length)).toArray) := by
  have hf := run_firstCells_some (P := P) w i.size m a m c news hl hnews
  have hst := run_storeCells_at P g (off + sLen * i.size) e' news 0 cur w hg (by simpa using hfit) h1
  simp only [Nat.add_zero] at hst
  simp [Builtin.append_, run_underlying ht, sizeOf, typeInfo, hi, Builtin.lenOf, hroom, hf, Addr.add_lit, hst]

theorem run_append_zero (w : World) (t ty e : TypeId) (i : TypeInfo) (ht : P.underlying t = some (.slice e)) (hi : P.info? e = some i) (base ad : Option Addr) (n c c' : Nat) (hn : n ≤ c) :
    (Builtin.append_ #[t, t] ty #[.slice base n c, .slice ad 0 c']).run P w = .ok (.slice base n c) w := by
  cases base <;> cases ad <;> simp [Builtin.append_, run_underlying ht, sizeOf, typeInfo, hi, Builtin.lenOf, hn, Builtin.firstCells, loadCells, loadCellsFrom, storeCells]

/-- A nil or full slice grows into a new row. -/
theorem run_append_new (w : World) (t ty e : TypeId) (i : TypeInfo) (z : Value) (ht : P.underlying t = some (.slice e)) (hi : P.info? e = some i) (hz : i.zero = some z)
    (base : Option Addr) (sLen sCap : Nat) (hnil : base = none → sLen = 0 ∧ sCap = 0) (olds : List Value) (hlo : olds.length = sLen * i.size) (holds : ∀ b, base = some b → ∀ (j : Nat) v, olds[j]? = some v → w.cell? (b.add j) = some v)
    (a : Addr) (n c : Nat) (news : List Value) (hl : news.length = n * i.size) (hnews : ∀ j v, news[j]? = some v → w.cell? (a.add j) = some v)
    (hg : sCap < sLen + n) (h63 : ((sLen + n : Nat) : Int) ≤ 9223372036854775807) (hfit : Builtin.nextslicecap (sLen + n) sCap * i.bytes ≤ 281474976710656) :
    (Builtin.append_ #[t, t] ty #[.slice base sLen sCap, .slice (some a) n c]).run P w =
      .ok (.slice (some ⟨w.heap.size, 0, none⟩) (sLen + n) (grownCap w (sLen + n) sCap e))
        (w.drew.alloc (.cells (olds.toArray ++ news.toArray ++ Builtin.zeroCells z.cells (grownCap w (sLen + n) sCap e - (sLen + n))) e)) := by
  cases base with
  | none =>
    obtain ⟨rfl, rfl⟩ := hnil rfl
    have : olds = [] := List.eq_nil_of_length_eq_zero (by simpa using hlo)
    subst this
    have := run_append_nil (P := P) w t ty e i z ht hi hz a n c news hl hnews (by omega) (by simpa using h63) (by rw [Nat.zero_add, nextslicecap_zero (by omega)] at hfit; exact hfit)
    simpa using this
  | some b => exact run_append_grow w t ty e i z ht hi hz b sLen sCap olds hlo (fun j v hj => holds b rfl j v hj) a n c news hl hnews hg h63 hfit

/-! ### what becomes of a slice's room -/
variable {w w' : World} {F : Avoid} {m : Nat → Reg} {H : Nat → AObj}

/-- A slice's room moves to a new block (or a slice's room is new). -/
theorem SimH.tail_new (h : SimH w F m H) {id n : Nat} {cs : Array Value} {e : TypeId} {lo hi : Nat} (hlo : lo ≤ hi) (hhi : hi ≤ cs.size)
    (hid : (H id = .dead ∧ id < 1000 ∧ ∀ j e c, H j = .row e c → id ∉ c.refs) ∨ ∃ n0, H id = .tail n0 ∧ n0 < n) :
    SimH (w.drew.alloc (.cells cs e)) F (upd m id ⟨w.heap.size, lo, hi⟩) (upd H id (.tail n)) ∧ Ev w m H (w.drew.alloc (.cells cs e)) (upd m id ⟨w.heap.size, lo, hi⟩) (upd H id (.tail n)) ∧
    (∀ j, j ≠ id → HOk (H j) (m j) (upd H id (.tail n) j) (upd m id ⟨w.heap.size, lo, hi⟩ j)) ∧ (∀ n0, H id = .tail n0 → HOk (H id) (m id) (upd H id (.tail n) id) (upd m id ⟨w.heap.size, lo, hi⟩ id)) := by
  have fr : ∀ O, Fr O w (w.drew.alloc (.cells cs e)) := fun O => (Fr.drew w).trans (Fr.alloc (O := O) _ _) fun _ _ _ h => h
  have hh : ∀ j, j ≠ id → HOk (H j) (m j) (upd H id (.tail n) j) (upd m id ⟨w.heap.size, lo, hi⟩ j) := fun j hj => by rw [upd_ne _ _ hj, upd_ne _ _ hj]; exact HOk.refl _ _
  have hh2 : ∀ n0, H id = .tail n0 → HOk (H id) (m id) (upd H id (.tail n) id) (upd m id ⟨w.heap.size, lo, hi⟩ id) := fun n0 h0 => by
    rw [upd_same]
    rcases hid with ⟨hd, _⟩ | ⟨n1, h1, h2⟩
    · rw [hd] at h0; cases h0
    · exact ⟨n1, h1, by omega, fun e => by omega⟩
  have own_id : ∀ b o, OwnBy (upd m id ⟨w.heap.size, lo, hi⟩) (upd H id (.tail n)) id b o → b = w.heap.size := fun b o ho => by
    have := ho.2.1
    rw [upd_same] at this
    exact this.symm
  have ev : Ev w m H (w.drew.alloc (.cells cs e)) (upd m id ⟨w.heap.size, lo, hi⟩) (upd H id (.tail n)) := by
    refine ⟨fr _, fun b o hb ⟨j, ho⟩ => ?_, fun j hj => ?_⟩
    · by_cases hji : j = id
      · subst hji
        have := own_id b o ho
        omega
      · exact ⟨j, (ownBy_upd_ne hji).1 ho⟩
    · by_cases hji : j = id
      · subst hji
        rcases hid with ⟨_, h1, _⟩ | ⟨n0, h1, h2⟩
        · omega
        · exact hh2 n0 h1
      · exact hh j hji
  have hk := ev.keeps F
  refine ⟨⟨fun j => ?_, fun i j b o hij h1 h2 => ?_, fun b o hf => ⟨?_, fun ⟨j, ho⟩ => ?_⟩, h.glob.move hk⟩, ev, hh, hh2⟩
  · by_cases hji : j = id
    · subst hji
      unfold ObjOk
      rw [upd_same, upd_same]
      exact ⟨hlo, fun _ => ⟨cs, e, heap_alloc_new w.drew _, hhi⟩⟩
    · refine (h.obj j).move (upd_ne _ _ hji) (upd_ne _ _ hji) (fr (fun _ _ => False)) (fun _ _ _ h => h) hk fun e' c' hj i hi => ?_
      by_cases hii : i = id
      · subst hii
        rcases hid with ⟨_, _, h3⟩ | ⟨n0, h1, _⟩
        · exact absurd hi (h3 j e' c' hj)
        · exact hh2 n0 h1
      · exact hh i hii
  · by_cases hi : i = id
    · subst hi
      have e1 := own_id b o h1
      have := h.own_lt ((ownBy_upd_ne (Ne.symm hij)).1 h2)
      omega
    · by_cases hj : j = id
      · subst hj
        have e1 := own_id b o h2
        have := h.own_lt ((ownBy_upd_ne hi).1 h1)
        omega
      · exact h.disj i j b o hij ((ownBy_upd_ne hi).1 h1) ((ownBy_upd_ne hj).1 h2)
  · have := (h.far b o hf).1
    simp
    omega
  · by_cases hji : j = id
    · subst hji
      have e1 := own_id b o ho
      have := (h.far b o hf).1
      omega
    · exact (h.far b o hf).2 ⟨j, (ownBy_upd_ne hji).1 ho⟩

/-- A new token without room: nothing in the world turns. -/
theorem SimH.tail_none (h : SimH w F m H) {id n : Nat} (r : Reg) (hr : r.lo = r.hi) (hd : H id = .dead) (hid : id < 1000) (hn : ∀ j e c, H j = .row e c → id ∉ c.refs) :
    SimH w F (upd m id r) (upd H id (.tail n)) ∧ Ev w m H w (upd m id r) (upd H id (.tail n)) ∧ (∀ j, j ≠ id → HOk (H j) (m j) (upd H id (.tail n) j) (upd m id r j)) := by
  have hh : ∀ j, j ≠ id → HOk (H j) (m j) (upd H id (.tail n) j) (upd m id r j) := fun j hj => by rw [upd_ne _ _ hj, upd_ne _ _ hj]; exact HOk.refl _ _
  have own_id : ∀ b o, ¬ OwnBy (upd m id r) (upd H id (.tail n)) id b o := fun b o ho => by
    have h1 := ho.2.2.1
    have h2 := ho.2.2.2
    rw [upd_same] at h1 h2
    omega
  have ow : ∀ j b o, OwnBy (upd m id r) (upd H id (.tail n)) j b o → OwnBy m H j b o := fun j b o ho => by
    by_cases hj : j = id
    · subst hj; exact absurd ho (own_id b o)
    · exact (ownBy_upd_ne hj).1 ho
  have ev : Ev w m H w (upd m id r) (upd H id (.tail n)) := ⟨Fr.refl _ _, fun b o _ ⟨j, ho⟩ => ⟨j, ow _ _ _ ho⟩, fun j hj => hh j (by omega)⟩
  have hk := ev.keeps F
  refine ⟨⟨fun j => ?_, fun i j b o hij h1 h2 => h.disj i j b o hij (ow _ _ _ h1) (ow _ _ _ h2), fun b o hf => ⟨(h.far b o hf).1, fun ⟨j, ho⟩ => (h.far b o hf).2 ⟨j, ow _ _ _ ho⟩⟩, h.glob.move hk⟩, ev, hh⟩
  by_cases hji : j = id
  · subst hji
    unfold ObjOk
    rw [upd_same, upd_same]
    exact ⟨by omega, fun hlt => by omega⟩
  · exact (h.obj j).move (upd_ne _ _ hji) (upd_ne _ _ hji) (Fr.refl (fun _ _ => False) w) (fun _ _ _ h => h) hk fun e' c' hj i hi => hh i fun e2 => hn j e' c' hj (e2 ▸ hi)

/-- A slice grows into its own room. -/
theorem SimH.tail_in (h : SimH w F m H) {id n n0 : Nat} (hid : H id = .tail n0) (hn : n0 ≤ n) {cs cs' : Array Value} {e : TypeId} (hg : w.heap[(m id).b]? = some (.cells cs e (0, 0))) (hs : cs'.size = cs.size) {lo : Nat} (hlo : (m id).lo ≤ lo) (hhi : lo ≤ (m id).hi) (hbig : (m id).hi ≤ cs.size)
    (hlt : n0 = n → lo = (m id).lo) (ho : ∀ o, o < (m id).lo ∨ lo ≤ o → cs'[o]? = cs[o]?) :
    SimH (w.setRow (m id).b cs') F (upd m id ⟨(m id).b, lo, (m id).hi⟩) (upd H id (.tail n)) ∧ Ev w m H (w.setRow (m id).b cs') (upd m id ⟨(m id).b, lo, (m id).hi⟩) (upd H id (.tail n)) ∧
    (∀ j, HOk (H j) (m j) (upd H id (.tail n) j) (upd m id ⟨(m id).b, lo, (m id).hi⟩ j)) := by
  have hh : ∀ j, HOk (H j) (m j) (upd H id (.tail n) j) (upd m id ⟨(m id).b, lo, (m id).hi⟩ j) := fun j => by
    by_cases hj : j = id
    · subst hj
      rw [upd_same, upd_same, hid]
      exact ⟨n0, rfl, hn, fun e => by rw [hlt e.symm]⟩
    · rw [upd_ne _ _ hj, upd_ne _ _ hj]; exact HOk.refl _ _
  have ow : ∀ j b o, OwnBy (upd m id ⟨(m id).b, lo, (m id).hi⟩) (upd H id (.tail n)) j b o → OwnBy m H j b o := fun j b o hj => by
    by_cases hji : j = id
    · subst hji
      obtain ⟨h1, h2, h3, h4⟩ := hj
      rw [upd_same] at h2 h3 h4
      exact ⟨by simp [hid], h2, by simp at h3; omega, by simpa using h4⟩
    · exact (ownBy_upd_ne hji).1 hj
  have fr : Fr (OwnBy m H id) w (w.setRow (m id).b cs') := by
    refine ⟨rfl, rfl, rfl, by simp, fun b x e' f hx => ?_, fun b x hx hy _ => ?_⟩
    · by_cases hb : b = (m id).b
      · subst hb
        rw [hg] at hx
        injection hx with hx
        injection hx with hx1 hx2 hx3
        subst hx1; subst hx2; subst hx3
        refine ⟨cs', setRow_heap w _ _ _ _ _ hg, hs, fun o hn => ho o ?_⟩
        rcases Nat.lt_or_ge o (m id).lo with h1 | h1
        · exact .inl h1
        · rcases Nat.lt_or_ge o lo with h2 | h2
          · exact absurd ⟨by simp [hid], rfl, h1, by omega⟩ hn
          · exact .inr h2
      · exact ⟨x, (setRow_other w _ b _ hb).trans hx, rfl, fun _ _ => rfl⟩
    · have hb : b ≠ (m id).b := fun e' => by subst e'; rw [hg] at hx; injection hx with hx; exact hy _ _ _ hx.symm
      exact (setRow_other w _ b _ hb).trans hx
  have ev : Ev w m H (w.setRow (m id).b cs') (upd m id ⟨(m id).b, lo, (m id).hi⟩) (upd H id (.tail n)) :=
    ⟨fr.mono fun _ _ _ hj => ⟨id, hj⟩, fun b o _ ⟨j, hj⟩ => ⟨j, ow _ _ _ hj⟩, fun j _ => hh j⟩
  have hk := ev.keeps F
  refine ⟨⟨fun j => ?_, fun i j b o hij h1 h2 => h.disj i j b o hij (ow _ _ _ h1) (ow _ _ _ h2), fun b o hf => ⟨by simpa using (h.far b o hf).1, fun ⟨j, hj⟩ => (h.far b o hf).2 ⟨j, ow _ _ _ hj⟩⟩, h.glob.move hk⟩, ev, hh⟩
  by_cases hj : j = id
  · subst hj
    unfold ObjOk
    rw [upd_same, upd_same]
    exact ⟨hhi, fun _ => ⟨cs', e, setRow_heap w _ _ _ _ _ hg, by simp only; omega⟩⟩
  · exact (h.obj j).move (upd_ne _ _ hj) (upd_ne _ _ hj) fr (fun b o h1 h2 => h.disj j id b o hj h1 h2) hk fun _ _ _ i _ => hh i
end
end Go.Av
end
