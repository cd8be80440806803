/- The virtual machine of a proof: values and memory with numbers of their own for blocks, and how they stand for the model's. -/
import Derived.CallsIn
import Derived.RangeFuncLeaves
import Derived.RangeFuncIn
import Derived.Below
import Derived.WalkKit
import Derived.Laws.StructEq
namespace Go.Proofs.YtcafmkekkcbamaaGreat
open Go.RowKit
namespace Vm

/-- What the blocks of a proof's own numbers are: block, where in it, room. -/
abbrev Ren := List (Option (Nat × Nat × Nat))
def Ren.at (ρ : Ren) (k b base cap : Nat) : Prop := ρ[k]? = some (some (b, base, cap))
def Ren.le (ρ σ : Ren) : Prop := ∃ δ, σ = ρ ++ δ

theorem Ren.le_refl (ρ : Ren) : ρ.le ρ := ⟨[], by simp⟩
theorem Ren.le_trans {ρ σ τ : Ren} (h : ρ.le σ) (k : σ.le τ) : ρ.le τ := by
  obtain ⟨δ, rfl⟩ := h
  obtain ⟨δ', rfl⟩ := k
  exact ⟨δ ++ δ', by simp⟩
theorem Ren.le_append (ρ δ : Ren) : ρ.le (ρ ++ δ) := ⟨δ, rfl⟩
theorem Ren.le.get {ρ σ : Ren} (h : ρ.le σ) {k b base cap : Nat} (hk : ρ.at k b base cap) : σ.at k b base cap := by
  obtain ⟨δ, rfl⟩ := h
  unfold Ren.at at *
  have hl : k < ρ.length := by
    rcases Nat.lt_or_ge k ρ.length with h' | h'
    · exact h'
    · rw [List.getElem?_eq_none h'] at hk; cases hk
  rw [List.getElem?_append_left hl]; exact hk
theorem Ren.at_fun {ρ : Ren} {k b base cap b' base' cap' : Nat} (h : ρ.at k b base cap) (h' : ρ.at k b' base' cap') : b = b' ∧ base = base' ∧ cap = cap' := by
  unfold Ren.at at *; rw [h] at h'; cases h'; exact ⟨rfl, rfl, rfl⟩

mutual
/-- A value of the proof stands for one of the model. -/
inductive VR (ρ : Ren) : Value → Value → Prop
  | bool (b : Bool) : VR ρ (.bool b) (.bool b)
  | int (k : IntKind) (n : Int) : VR ρ (.int k n) (.int k n)
  | str (s : ByteArray) : VR ρ (.string s) (.string s)
  | pnil : VR ρ (.pointer none) (.pointer none)
  | ptr (k o b base cap : Nat) (h : ρ.at k b base cap) : VR ρ (.pointer (some ⟨k, o, none⟩)) (.pointer (some ⟨b, o + base, none⟩))
  | snil (l c : Nat) : VR ρ (.slice none l c) (.slice none l c)
  | slice (k o l c b base cap c' : Nat) (h : ρ.at k b base cap) (hc : c' = c ∨ (c ≤ c' ∧ (o = 0 → base = 0 ∧ c' = cap))) :
      VR ρ (.slice (some ⟨k, o, none⟩) l c) (.slice (some ⟨b, o + base, none⟩) l c')
  | slice0 (k o b x base cap c' : Nat) (h : ρ.at k b base cap) : VR ρ (.slice (some ⟨k, o, some 0⟩) 0 0) (.slice (some ⟨b, x, none⟩) 0 c')
  | fnil : VR ρ .nilFunc .nilFunc
  | func (f : FuncId) (xs ys cs ds : List Value) (h : VRs ρ xs ys) (h' : VRs ρ cs ds) : VR ρ (.func (.func f) ⟨xs⟩ ⟨cs⟩) (.func (.func f) ⟨ys⟩ ⟨ds⟩)
  | yield (k b base cap : Nat) (h : ρ.at k b base cap) : VR ρ (.func (.yield k) #[] #[]) (.func (.yield b) #[] #[])
  | inil : VR ρ .nilIface .nilIface
  | iface (t : TypeId) (v v' : Value) (h : VR ρ v v') : VR ρ (.iface t v) (.iface t v')
  | mnil : VR ρ (.map none) (.map none)
  | map (k b base cap : Nat) (h : ρ.at k b base cap) : VR ρ (.map (some k)) (.map (some b))
  | agg (xs ys : List Value) (h : VRs ρ xs ys) : VR ρ (.agg ⟨xs⟩) (.agg ⟨ys⟩)
  | tuple (xs ys : List Value) (h : VRs ρ xs ys) : VR ρ (.tuple ⟨xs⟩) (.tuple ⟨ys⟩)
inductive VRs (ρ : Ren) : List Value → List Value → Prop
  | nil : VRs ρ [] []
  | cons (v v' : Value) (l l' : List Value) (h : VR ρ v v') (h' : VRs ρ l l') : VRs ρ (v :: l) (v' :: l')
end

/-- One's blocks are the other's. -/
def Ren.sub (ρ σ : Ren) : Prop := ∀ k b base cap, ρ.at k b base cap → σ.at k b base cap
theorem Ren.le.sub {ρ σ : Ren} (h : ρ.le σ) : Ren.sub ρ σ := fun _ _ _ _ => h.get
mutual
theorem VR.msub {ρ σ : Ren} (hle : Ren.sub ρ σ) : ∀ {v v' : Value}, VR ρ v v' → VR σ v v'
  | _, _, .bool b => .bool b
  | _, _, .int k n => .int k n
  | _, _, .str s => .str s
  | _, _, .pnil => .pnil
  | _, _, .ptr k o b base cap h => .ptr k o b base cap (hle _ _ _ _ h)
  | _, _, .snil l c => .snil l c
  | _, _, .slice k o l c b base cap c' h hc => .slice k o l c b base cap c' (hle _ _ _ _ h) hc
  | _, _, .slice0 k o b x base cap c' h => .slice0 k o b x base cap c' (hle _ _ _ _ h)
  | _, _, .fnil => .fnil
  | _, _, .func f xs ys cs ds h h' => .func f xs ys cs ds (VRs.msub hle h) (VRs.msub hle h')
  | _, _, .yield k b base cap h => .yield k b base cap (hle _ _ _ _ h)
  | _, _, .inil => .inil
  | _, _, .iface t v v' h => .iface t v v' (VR.msub hle h)
  | _, _, .mnil => .mnil
  | _, _, .map k b base cap h => .map k b base cap (hle _ _ _ _ h)
  | _, _, .agg xs ys h => .agg xs ys (VRs.msub hle h)
  | _, _, .tuple xs ys h => .tuple xs ys (VRs.msub hle h)
theorem VRs.msub {ρ σ : Ren} (hle : Ren.sub ρ σ) : ∀ {l l' : List Value}, VRs ρ l l' → VRs σ l l'
  | _, _, .nil => .nil
  | _, _, .cons v v' l l' h h' => .cons v v' l l' (VR.msub hle h) (VRs.msub hle h')
end

theorem VR.mono {ρ σ : Ren} (hle : ρ.le σ) {v v' : Value} (h : VR ρ v v') : VR σ v v' := h.msub hle.sub
theorem VRs.mono {ρ σ : Ren} (hle : ρ.le σ) {l l' : List Value} (h : VRs ρ l l') : VRs σ l l' := h.msub hle.sub

theorem VR.undef (ρ : Ren) : VR ρ undef Go.undef := .tuple [] [] .nil
theorem VRs.length {ρ : Ren} {l l' : List Value} (h : VRs ρ l l') : l.length = l'.length := by
  induction l generalizing l' with
  | nil => cases h; rfl
  | cons v l ih => cases h with | cons _ _ _ _ _ h' => simp [ih h']
theorem VRs.get {ρ : Ren} {l l' : List Value} (h : VRs ρ l l') {i : Nat} {v : Value} (hv : l[i]? = some v) : ∃ v', l'[i]? = some v' ∧ VR ρ v v' := by
  induction l generalizing l' i with
  | nil => simp at hv
  | cons x l ih =>
    cases h with
    | cons _ x' _ l'' h1 h2 =>
      cases i with
      | zero => simp at hv; subst hv; exact ⟨x', by simp, h1⟩
      | succ i => simp at hv; obtain ⟨v', a, b⟩ := ih h2 hv; exact ⟨v', by simpa using a, b⟩
theorem VRs.set {ρ : Ren} {l l' : List Value} (h : VRs ρ l l') (i : Nat) {v v' : Value} (hv : VR ρ v v') : VRs ρ (l.set i v) (l'.set i v') := by
  induction l generalizing l' i with
  | nil => cases h; exact .nil
  | cons x l ih =>
    cases h with
    | cons _ x' _ l'' h1 h2 =>
      cases i with
      | zero => exact .cons _ _ _ _ hv h2
      | succ i => exact .cons _ _ _ _ h1 (ih h2 i)
theorem VRs.append {ρ : Ren} {l l' m m' : List Value} (h : VRs ρ l l') (k : VRs ρ m m') : VRs ρ (l ++ m) (l' ++ m') := by
  induction l generalizing l' with
  | nil => cases h; exact k
  | cons x l ih => cases h with | cons _ x' _ l'' h1 h2 => exact .cons _ _ _ _ h1 (ih h2)
theorem VRs.drop {ρ : Ren} {l l' : List Value} (h : VRs ρ l l') (i : Nat) : VRs ρ (l.drop i) (l'.drop i) := by
  induction l generalizing l' i with
  | nil => cases h; simpa only [List.drop_nil] using .nil
  | cons x l ih =>
    cases h with
    | cons _ x' _ l'' h1 h2 =>
      cases i with
      | zero => exact .cons _ _ _ _ h1 h2
      | succ i => exact ih h2 i
theorem VRs.take {ρ : Ren} {l l' : List Value} (h : VRs ρ l l') (i : Nat) : VRs ρ (l.take i) (l'.take i) := by
  induction l generalizing l' i with
  | nil => cases h; simpa using .nil
  | cons x l ih =>
    cases h with
    | cons _ x' _ l'' h1 h2 =>
      cases i with
      | zero => exact .nil
      | succ i => exact .cons _ _ _ _ h1 (ih h2 i)
theorem VR.oneCell {ρ : Ren} {v v' : Value} (h : VR ρ v v') : v'.oneCell' = v.oneCell' := by cases h <;> rfl
theorem VR.cells {ρ : Ren} {v v' : Value} (h : VR ρ v v') : VRs ρ v.cells.toList v'.cells.toList := by
  cases h with
  | agg xs ys h => exact h
  | _ => exact .cons _ _ _ _ (by constructor <;> assumption) .nil

/-! ### Memory -/

abbrev Env := List (Nat × Value)
def eget : Env → Nat → Option Value
  | [], _ => none
  | (t, v) :: E, u => if Nat.beq t u then some v else eget E u

inductive VObj
  | cells (cs : List Value) (T : TypeId)
  | arr (sz n : Nat) (get : Nat → Value) (T : TypeId)
  | view (n : Nat) (get : Nat → Value)
  | gone
  | loop (st : LoopState) (pend : Option Code) (E : Env) (nt : Nat) (ps : Array Tmp) (asn body : Code)
abbrev VMem := List VObj

/-- Is a block one that only this proof's numbers lead to (and may be written)? -/
def VObj.owned : VObj → Bool
  | .view _ _ | .gone => false
  | _ => true
def VObj.seen : VObj → Bool
  | .gone => false
  | _ => true

def EnvR (ρ : Ren) (E : Env) (tm : Array Value) : Prop := ∀ t v, eget E t = some v → ∃ v', tm[t]? = some v' ∧ VR ρ v v'
theorem EnvR.msub {ρ σ : Ren} (hle : Ren.sub ρ σ) {E : Env} {tm : Array Value} (h : EnvR ρ E tm) : EnvR σ E tm :=
  fun t v hv => let ⟨v', a, b⟩ := h t v hv; ⟨v', a, b.msub hle⟩
theorem EnvR.mono {ρ σ : Ren} (hle : ρ.le σ) {E : Env} {tm : Array Value} (h : EnvR ρ E tm) : EnvR σ E tm := h.msub hle.sub
theorem EnvR.put {ρ : Ren} {E : Env} {tm : Array Value} (h : EnvR ρ E tm) {d : Nat} (hd : d < tm.size) {v v' : Value} (hv : VR ρ v v') : EnvR ρ ((d, v) :: E) (tm.setIfInBounds d v') := by
  intro t u hu
  simp only [eget] at hu
  by_cases ht : Nat.beq d t = true
  · rw [if_pos ht] at hu
    have := Nat.eq_of_beq_eq_true ht; subst this
    cases hu
    exact ⟨v', by simp [Array.getElem?_setIfInBounds, hd], hv⟩
  · rw [if_neg ht] at hu
    obtain ⟨w, a, b⟩ := h t u hu
    have hne : d ≠ t := fun e => ht (by subst e; exact Nat.beq_refl d)
    exact ⟨w, by rw [Array.getElem?_setIfInBounds_ne hne]; exact a, b⟩
theorem EnvR.sub {ρ : Ren} {E E' : Env} {tm : Array Value} (h : EnvR ρ E tm) (hs : ∀ t v, eget E' t = some v → eget E t = some v) : EnvR ρ E' tm :=
  fun t v hv => h t v (hs t v hv)

def ObjR (ρ : Ren) (w : World) (b base cap : Nat) : VObj → Prop
  | .cells cs T => base = 0 ∧ cap = 0 ∧ ∃ ds, VRs ρ cs ds ∧ w.heap[b]? = some (.cells ⟨ds⟩ T (0, 0))
  | .arr sz n get T => base = 0 ∧ ∃ c : Array Value, w.heap[b]? = some (.cells c T (0, 0)) ∧ cap * sz ≤ c.size ∧ n ≤ c.size ∧ ∀ i, i < n → ∃ v, c[i]? = some v ∧ VR ρ (get i) v
  | .view n get => ∃ (c : Array Value) (T : TypeId) (fr : Nat × Nat), w.heap[b]? = some (.cells c T fr) ∧ ∀ i, i < n → ∃ v, c[i + base]? = some v ∧ VR ρ (get i) v
  | .gone => True
  | .loop st pend E nt ps asn body => base = 0 ∧ ∃ (f : FuncId) (tm : Array Value) (db : Nat), w.heap[b]? = some (.loop { state := st, pending := pend, fn := f, tmps := tm, params := ps, assign := asn, body := body, defers := db }) ∧ EnvR ρ E tm ∧ tm.size = nt

theorem ObjR.msub {ρ σ : Ren} (hle : Ren.sub ρ σ) {w : World} {b base cap : Nat} {o : VObj} (h : ObjR ρ w b base cap o) : ObjR σ w b base cap o := by
  cases o with
  | cells cs T => obtain ⟨h0, hc, ds, h1, h2⟩ := h; exact ⟨h0, hc, ds, h1.msub hle, h2⟩
  | arr sz n get T => obtain ⟨h0, c, h1, h2, h3, h4⟩ := h; exact ⟨h0, c, h1, h2, h3, fun i hi => let ⟨v, a, b⟩ := h4 i hi; ⟨v, a, b.msub hle⟩⟩
  | view n get => obtain ⟨c, T, fr, h1, h4⟩ := h; exact ⟨c, T, fr, h1, fun i hi => let ⟨v, a, b⟩ := h4 i hi; ⟨v, a, b.msub hle⟩⟩
  | gone => trivial
  | loop st pend E nt ps asn body => obtain ⟨h0, f, tm, db, h1, h2, h3⟩ := h; exact ⟨h0, f, tm, db, h1, h2.msub hle, h3⟩
theorem ObjR.mono {ρ σ : Ren} (hle : ρ.le σ) {w : World} {b base cap : Nat} {o : VObj} (h : ObjR ρ w b base cap o) : ObjR σ w b base cap o := h.msub hle.sub
theorem ObjR.heap {ρ : Ren} {w w' : World} {b base cap : Nat} {o : VObj} (hw : w'.heap[b]? = w.heap[b]?) (h : ObjR ρ w b base cap o) : ObjR ρ w' b base cap o := by
  cases o <;> first | trivial | simpa only [ObjR, hw] using h
theorem ObjR.lt {ρ : Ren} {w : World} {b base cap : Nat} {o : VObj} (ho : o.seen = true) (h : ObjR ρ w b base cap o) : b < w.heap.size := by
  have key : ∀ x, w.heap[b]? = some x → b < w.heap.size := fun x hx => (Array.getElem?_eq_some_iff.1 hx).1
  cases o with
  | cells cs T => obtain ⟨_, _, ds, _, h2⟩ := h; exact key _ h2
  | arr sz n get T => obtain ⟨_, c, h1, _⟩ := h; exact key _ h1
  | view n get => obtain ⟨c, T, fr, h1, h4⟩ := h; exact key _ h1
  | gone => simp [VObj.seen] at ho
  | loop st pend E nt ps asn body => obtain ⟨_, f, tm, db, h1, _⟩ := h; exact key _ h1

theorem ObjR.no_mark {ρ : Ren} {w : World} {b base cap : Nat} {o : VObj} (ho : o.seen = true) (h : ObjR ρ w b base cap o) : w.heap[b]? ≠ some (.deferred (some [])) := by
  cases o with
  | cells cs T => obtain ⟨_, _, ds, _, h2⟩ := h; rw [h2]; intro e; cases e
  | arr sz n get T => obtain ⟨_, c, h1, _⟩ := h; rw [h1]; intro e; cases e
  | view n get => obtain ⟨c, T, fr, h1, h4⟩ := h; rw [h1]; intro e; cases e
  | gone => simp [VObj.seen] at ho
  | loop st pend E nt ps asn body => obtain ⟨_, f, tm, db, h1, _⟩ := h; rw [h1]; intro e; cases e

structure Sim (ρ : Ren) (M : VMem) (w : World) : Prop where
  len : ρ.length = M.length
  obj : ∀ k o, M[k]? = some o → o.seen = true → ∃ b base cap, ρ.at k b base cap ∧ ObjR ρ w b base cap o
  apart : ∀ k k' o o' b base cap b' base' cap', k ≠ k' → M[k]? = some o → M[k']? = some o' → o.owned = true → o'.seen = true → ρ.at k b base cap → ρ.at k' b' base' cap' → b ≠ b'

/-- Which blocks of the world may be written. -/
def Wr (ρ : Ren) (M : VMem) (b : Nat) : Prop := ∃ k o base cap, M[k]? = some o ∧ o.owned = true ∧ ρ.at k b base cap

/-- What is left alone from one world to another: all blocks that are there already, but some. -/
structure Kept (W : Nat → Prop) (w w' : World) : Prop where
  os : w'.os = w.os
  tape : w'.tape = w.tape
  output : w'.output = w.output
  size : w.heap.size ≤ w'.heap.size
  block : ∀ b, b < w.heap.size → ¬ W b → w'.heap[b]? = w.heap[b]?
theorem Kept.refl (W : Nat → Prop) (w : World) : Kept W w w := ⟨rfl, rfl, rfl, Nat.le_refl _, fun _ _ _ => rfl⟩
theorem Kept.trans {W W' : Nat → Prop} {a b c : World} (h : Kept W a b) (k : Kept W' b c) (hW : ∀ x, W' x → W x ∨ a.heap.size ≤ x) : Kept W a c :=
  ⟨k.os.trans h.os, k.tape.trans h.tape, k.output.trans h.output, Nat.le_trans h.size k.size, fun x hx hn => by
    rw [k.block x (Nat.lt_of_lt_of_le hx h.size) (fun h' => by rcases hW x h' with h' | h'; exact hn h'; omega), h.block x hx hn]⟩
theorem Kept.drew (W : Nat → Prop) (w : World) : Kept W w w.drew := ⟨rfl, rfl, rfl, Nat.le_refl _, fun _ _ _ => rfl⟩
theorem Kept.alloc (W : Nat → Prop) (w : World) (o : Obj) : Kept W w (w.alloc o) :=
  ⟨rfl, rfl, rfl, by simp, fun b hb _ => Below.heap_alloc w o b hb⟩
theorem Kept.setCell {W : Nat → Prop} (w : World) (a : Addr) (v : Value) (ha : W a.block) : Kept W w (w.setCell a v) :=
  ⟨rfl, rfl, rfl, by simp, fun b hb hn => Below.heap_setCell w a v b (fun e => hn (e ▸ ha))⟩
theorem Kept.grown {W : Nat → Prop} {w w' : World} {row : Option Nat} (hg : w.grownBy w' row) (hr : ∀ k, row = some k → W k) : Kept W w w' :=
  ⟨hg.os, hg.tape, hg.output, hg.size, fun b hb hn => hg.block b hb (fun e => hn (hr b e.symm))⟩

/-- Where a proof of a body stands: which world it began in, what it may write. -/
structure Ctx where
  w0 : World
  W : Nat → Prop
  ρ0 : Ren
  lo : Nat

def mark (b : Nat) : Deferred := { target := .collected b, args := #[] }

structure St (C : Ctx) (nt : Nat) (ρ : Ren) (E : Env) (M : VMem) (a : Act) (w : World) : Prop where
  sim : Sim ρ M w
  env : EnvR ρ E a.tmps
  size : a.tmps.size = nt
  defs : ∃ H : List Nat, a.defers = H.map mark ∧ H.Nodup ∧ ∀ b ∈ H, w.heap[b]? = some (.deferred (some [])) ∧ C.lo ≤ b
  le : C.ρ0.le ρ
  kept : Kept C.W C.w0 w
  own : ∀ b, Wr ρ M b → C.W b ∨ C.w0.heap.size ≤ b

end Vm
end Go.Proofs.YtcafmkekkcbamaaGreat
namespace Go.Proofs.YtcafmkekkcbamaaGreat
open Go.RowKit
namespace Vm

/-- What is read at a place of an object. -/
def VObj.has : VObj → Nat → Value → Prop
  | .cells cs _, i, v => cs[i]? = some v
  | .arr _ n get _, i, v => i < n ∧ v = get i
  | .view n get, i, v => i < n ∧ v = get i
  | _, _, _ => False

theorem VObj.has_seen {o : VObj} {i : Nat} {v : Value} (h : o.has i v) : o.seen = true := by cases o <;> first | rfl | exact h.elim

theorem cell?_of_heap {w : World} {b i : Nat} {c : Array Value} {T : TypeId} {fr : Nat × Nat} (h : w.heap[b]? = some (.cells c T fr)) : w.cell? ⟨b, i, none⟩ = c[i]? := by
  simp [World.cell?, h]
theorem frozen?_of_heap {w : World} {b i : Nat} {c : Array Value} {T : TypeId} (h : w.heap[b]? = some (.cells c T (0, 0))) : w.frozen? ⟨b, i, none⟩ = false := by
  simp [World.frozen?, h]

theorem ObjR.cell {ρ : Ren} {w : World} {b base cap i : Nat} {o : VObj} {v : Value} (h : ObjR ρ w b base cap o) (hv : o.has i v) :
    ∃ v', w.cell? ⟨b, i + base, none⟩ = some v' ∧ VR ρ v v' := by
  cases o with
  | cells cs T =>
    obtain ⟨rfl, _, ds, h1, h2⟩ := h
    obtain ⟨v', a, b⟩ := h1.get hv
    exact ⟨v', by rw [cell?_of_heap h2]; simpa using a, b⟩
  | arr sz n get T =>
    obtain ⟨rfl, c, h1, _, _, h4⟩ := h
    obtain ⟨hi, rfl⟩ := hv
    obtain ⟨v', a, b⟩ := h4 i hi
    exact ⟨v', by rw [cell?_of_heap h1]; simpa using a, b⟩
  | view n get =>
    obtain ⟨c, T, fr, h1, h4⟩ := h
    obtain ⟨hi, rfl⟩ := hv
    obtain ⟨v', a, b⟩ := h4 i hi
    exact ⟨v', by rw [cell?_of_heap h1]; exact a, b⟩
  | gone => exact hv.elim
  | loop => exact hv.elim

theorem Sim.get {ρ : Ren} {M : VMem} {w : World} (h : Sim ρ M w) {k b base cap : Nat} {o : VObj} (hk : M[k]? = some o) (hs : o.seen = true) (hr : ρ.at k b base cap) : ObjR ρ w b base cap o := by
  obtain ⟨b', base', cap', hr', ho⟩ := h.obj k o hk hs
  obtain ⟨rfl, rfl, rfl⟩ := Ren.at_fun hr hr'
  exact ho
theorem Sim.cell {ρ : Ren} {M : VMem} {w : World} (h : Sim ρ M w) {k i : Nat} {o : VObj} {v : Value} (hk : M[k]? = some o) (hv : o.has i v) :
    ∃ b base cap v', ρ.at k b base cap ∧ w.cell? ⟨b, i + base, none⟩ = some v' ∧ VR ρ v v' := by
  obtain ⟨b, base, cap, hr, ho⟩ := h.obj k o hk (VObj.has_seen hv)
  obtain ⟨v', a, c⟩ := ho.cell hv
  exact ⟨b, base, cap, v', hr, a, c⟩

theorem owned_seen {o : VObj} (h : o.owned = true) : o.seen = true := by cases o <;> simp_all [VObj.owned, VObj.seen]

theorem Ren.lt {ρ : Ren} {k b base cap : Nat} (h : ρ.at k b base cap) : k < ρ.length := by
  unfold Ren.at at h
  rcases Nat.lt_or_ge k ρ.length with h' | h'
  · exact h'
  · rw [List.getElem?_eq_none h'] at h; cases h
theorem Ren.at_append {ρ δ : Ren} {k b base cap : Nat} (hk : k < ρ.length) : (ρ ++ δ).at k b base cap ↔ ρ.at k b base cap := by
  unfold Ren.at; rw [List.getElem?_append_left hk]

/-- One object of a state is turned, and one block of the world. -/
theorem Sim.set {ρ : Ren} {M : VMem} {w w' : World} (h : Sim ρ M w) {k b base cap : Nat} {o o' : VObj} (hk : M[k]? = some o) (ho : o.owned = true) (hr : ρ.at k b base cap)
    (hw : ∀ x, x ≠ b → w'.heap[x]? = w.heap[x]?) (ho' : ObjR ρ w' b base cap o') (hs : o'.owned = true ∨ o' = .gone) : Sim ρ (M.set k o') w' := by
  have hkl : k < M.length := by rcases Nat.lt_or_ge k M.length with h' | h'; exact h'; rw [List.getElem?_eq_none h'] at hk; cases hk
  refine ⟨by simp [h.len], ?_, ?_⟩
  · intro j p hj hp
    by_cases hjk : k = j
    · subst hjk
      rw [List.getElem?_set_self hkl] at hj; cases hj
      exact ⟨b, base, cap, hr, ho'⟩
    · rw [List.getElem?_set_ne hjk] at hj
      obtain ⟨b', base', cap', hr', hobj⟩ := h.obj j p hj hp
      exact ⟨b', base', cap', hr', hobj.heap (hw b' (Ne.symm (h.apart k j o p _ _ _ _ _ _ hjk hk hj ho hp hr hr')))⟩
  · intro i j p q b1 base1 cap1 b2 base2 cap2 hij hi hj hp hq h1 h2
    by_cases hik : k = i
    · subst hik
      rw [List.getElem?_set_ne hij] at hj
      obtain ⟨rfl, rfl, rfl⟩ := Ren.at_fun hr h1
      exact h.apart k j o q _ _ _ _ _ _ hij hk hj ho hq hr h2
    · rw [List.getElem?_set_ne hik] at hi
      by_cases hjk : k = j
      · subst hjk
        rw [List.getElem?_set_self hkl] at hj; cases hj
        obtain ⟨rfl, rfl, rfl⟩ := Ren.at_fun hr h2
        exact h.apart i k p o _ _ _ _ _ _ hij hi hk hp (owned_seen ho) h1 hr
      · rw [List.getElem?_set_ne hjk] at hj
        exact h.apart i j p q _ _ _ _ _ _ hij hi hj hp hq h1 h2

/-- An object more. -/
theorem Sim.add {ρ : Ren} {M : VMem} {w w' : World} (h : Sim ρ M w) {g base cap : Nat} {o : VObj}
    (hw : ∀ k p b x y, M[k]? = some p → p.seen = true → ρ.at k b x y → w'.heap[b]? = w.heap[b]? ∧ b ≠ g) (ho : ObjR (ρ ++ [some (g, base, cap)]) w' g base cap o) :
    Sim (ρ ++ [some (g, base, cap)]) (M ++ [o]) w' := by
  have hlt : ∀ {k : Nat} {p : VObj}, M[k]? = some p → k < M.length := fun {k p} hk => by
    rcases Nat.lt_or_ge k M.length with h' | h'; exact h'; rw [List.getElem?_eq_none h'] at hk; cases hk
  have hnew : (ρ ++ [some (g, base, cap)]).at M.length g base cap := by unfold Ren.at; rw [← h.len]; simp
  have hsplit : ∀ {k : Nat} {p : VObj}, (M ++ [o])[k]? = some p → M[k]? = some p ∨ (k = M.length ∧ p = o) := by
    intro k p hk
    rcases Nat.lt_trichotomy k M.length with h' | h' | h'
    · rw [List.getElem?_append_left h'] at hk; exact .inl hk
    · subst h'; simp at hk; exact .inr ⟨rfl, hk.symm⟩
    · rw [List.getElem?_eq_none (by simp; omega)] at hk; cases hk
  refine ⟨by simp [h.len], ?_, ?_⟩
  · intro k p hk hp
    rcases hsplit hk with hk | ⟨rfl, rfl⟩
    · obtain ⟨b, x, y, hr, hobj⟩ := h.obj k p hk hp
      exact ⟨b, x, y, (Ren.at_append (Ren.lt hr)).2 hr, (hobj.heap (hw k p b x y hk hp hr).1).mono (Ren.le_append _ _)⟩
    · exact ⟨g, base, cap, hnew, ho⟩
  · intro i j p q b1 x1 y1 b2 x2 y2 hij hi hj hp hq h1 h2
    rcases hsplit hi with hi' | ⟨ei, ei'⟩
    · have h1' := (Ren.at_append (h.len ▸ hlt hi')).1 h1
      rcases hsplit hj with hj' | ⟨ej, ej'⟩
      · exact h.apart i j p q _ _ _ _ _ _ hij hi' hj' hp hq h1' ((Ren.at_append (h.len ▸ hlt hj')).1 h2)
      · subst ej
        obtain ⟨e, _, _⟩ := Ren.at_fun h2 hnew
        rw [e]
        exact (hw i p _ _ _ hi' (owned_seen hp) h1').2
    · subst ei
      obtain ⟨e, _, _⟩ := Ren.at_fun h1 hnew
      rw [e]
      rcases hsplit hj with hj' | ⟨ej, ej'⟩
      · exact Ne.symm (hw j q _ _ _ hj' hq ((Ren.at_append (h.len ▸ hlt hj')).1 h2)).2
      · exact absurd ej.symm hij

theorem Sim.kept {ρ : Ren} {M : VMem} {w w' : World} (h : Sim ρ M w) (hw : ∀ k p b x y, M[k]? = some p → p.seen = true → ρ.at k b x y → w'.heap[b]? = w.heap[b]?) : Sim ρ M w' :=
  ⟨h.len, fun k o hk ho => let ⟨b, x, y, hr, hobj⟩ := h.obj k o hk ho; ⟨b, x, y, hr, hobj.heap (hw k o b x y hk ho hr)⟩, h.apart⟩

section
variable {C : Ctx} {nt : Nat} {ρ : Ren} {E : Env} {M : VMem} {a : Act} {w : World}

theorem St.defs_of (h : St C nt ρ E M a w) {a' : Act} (ha : a'.defers = a.defers) {w' : World} (hw : ∀ b : Nat, w.heap[b]? = some (.deferred (some [])) → w'.heap[b]? = some (.deferred (some []))) :
    ∃ H : List Nat, a'.defers = H.map mark ∧ H.Nodup ∧ ∀ b ∈ H, w'.heap[b]? = some (.deferred (some [])) ∧ C.lo ≤ b := by
  obtain ⟨H, h1, h2, h3⟩ := h.defs
  exact ⟨H, ha.trans h1, h2, fun b hb => ⟨hw b (h3 b hb).1, (h3 b hb).2⟩⟩
theorem heap_lt {w : World} {b : Nat} {o : Obj} (h : w.heap[b]? = some o) : b < w.heap.size := (Array.getElem?_eq_some_iff.1 h).1

theorem St.drew (h : St C nt ρ E M a w) : St C nt ρ E M a w.drew :=
  ⟨h.sim.kept fun _ _ _ _ _ _ _ _ => rfl, h.env, h.size, h.defs_of rfl (fun _ hb => hb), h.le, h.kept.trans (Kept.drew C.W w) (fun _ h => .inl h), h.own⟩

theorem St.put (h : St C nt ρ E M a w) {d : Nat} (hd : d < nt) {v v' : Value} (hv : VR ρ v v') : St C nt ρ ((d, v) :: E) M (a.put (some d) v') w :=
  ⟨h.sim, h.env.put (h.size ▸ hd) hv, by simp [Act.put, h.size], h.defs_of rfl (fun _ hb => hb), h.le, h.kept, h.own⟩

theorem St.env_sub (h : St C nt ρ E M a w) {E' : Env} (hs : ∀ t v, eget E' t = some v → eget E t = some v) : St C nt ρ E' M a w :=
  ⟨h.sim, h.env.sub hs, h.size, h.defs, h.le, h.kept, h.own⟩

theorem St.eval (h : St C nt ρ E M a w) {t : Nat} {v : Value} (hv : eget E t = some v) : ∃ v', a.eval (.tmp t) = v' ∧ VR ρ v v' := by
  obtain ⟨v', h1, h2⟩ := h.env t v hv
  exact ⟨v', by simp [Act.eval, h1, Array.getD_eq_getD_getElem?], h2⟩

theorem wr_set {k b : Nat} {o o' : VObj} {x y : Nat} (hk : M[k]? = some o) (ho : o.owned = true) (hr : ρ.at k b x y) : ∀ c, Wr ρ (M.set k o') c → Wr ρ M c := by
  rintro c ⟨j, p, x', y', hj, hp, hr'⟩
  by_cases hjk : k = j
  · subst hjk
    obtain ⟨rfl, _, _⟩ := Ren.at_fun hr hr'
    exact ⟨k, o, x, y, hk, ho, hr⟩
  · rw [List.getElem?_set_ne hjk] at hj
    exact ⟨j, p, x', y', hj, hp, hr'⟩

/-- One object of the state is turned, in a world in which one block is turned. -/
theorem St.set {w' : World} (h : St C nt ρ E M a w) {k b base cap : Nat} {o o' : VObj} (hk : M[k]? = some o) (ho : o.owned = true) (hr : ρ.at k b base cap)
    (hk' : Kept (fun x => x = b) w w') (hw : ∀ x, x ≠ b → w'.heap[x]? = w.heap[x]?) (ho' : ObjR ρ w' b base cap o') (hs : o'.owned = true ∨ o' = .gone) : St C nt ρ E (M.set k o') a w' :=
  ⟨h.sim.set hk ho hr hw ho' hs, h.env, h.size, h.defs_of rfl (fun x hx => by
    have hne : x ≠ b := fun e => (h.sim.get hk (owned_seen ho) hr).no_mark (owned_seen ho) (e ▸ hx)
    rw [hw x hne]; exact hx), h.le,
   h.kept.trans hk' (fun x hx => by subst hx; exact h.own _ ⟨k, o, base, cap, hk, ho, hr⟩),
   fun x hx => h.own x (wr_set hk ho hr x hx)⟩

/-- What an object is when a place of it is written. -/
def setL {α : Type} : List α → Nat → α → List α
  | [], _, _ => []
  | _ :: l, 0, v => v :: l
  | x :: l, n + 1, v => x :: setL l n v
theorem setL_eq {α : Type} (l : List α) (i : Nat) (v : α) : setL l i v = l.set i v := by
  induction l generalizing i with
  | nil => rfl
  | cons x l ih => cases i with
    | zero => rfl
    | succ i => simp [setL, ih]
def updG (get : Nat → Value) (i : Nat) (v : Value) : Nat → Value := fun j => bif Nat.beq j i then v else get j
def VObj.upd : VObj → Nat → Value → VObj
  | .cells cs T, i, v => .cells (setL cs i v) T
  | .arr sz n get T, i, v => .arr sz n (updG get i v) T
  | o, _, _ => o
def VObj.holds : VObj → Nat → Prop
  | .cells cs _, i => i < cs.length
  | .arr _ n _ _, i => i < n
  | _, _ => False

theorem heap_setCell_self {b i : Nat} {c : Array Value} {T : TypeId} (h : w.heap[b]? = some (.cells c T (0, 0))) (v : Value) :
    (w.setCell ⟨b, i, none⟩ v).heap[b]? = some (.cells (c.setIfInBounds i v) T (0, 0)) := by
  simp [World.setCell, Array.getElem?_modify, h]

theorem St.store (h : St C nt ρ E M a w) {k i b base cap : Nat} {o : VObj} (hk : M[k]? = some o) (hi : o.holds i) (hr : ρ.at k b base cap) {v v' : Value} (hv : VR ρ v v') (h1 : v.oneCell' = true) :
    (∃ u, w.cell? ⟨b, i + base, none⟩ = some u) ∧ w.frozen? ⟨b, i + base, none⟩ = false ∧ St C nt ρ E (M.set k (o.upd i v)) a (w.setCell ⟨b, i + base, none⟩ v') := by
  have hkept : Kept (fun x => x = b) w (w.setCell ⟨b, i + base, none⟩ v') := Kept.setCell w _ _ rfl
  have hother : ∀ x, x ≠ b → (w.setCell ⟨b, i + base, none⟩ v').heap[x]? = w.heap[x]? := fun x hx => Below.heap_setCell w _ _ x hx
  cases o with
  | cells cs T =>
    obtain ⟨h0, hc0, ds, hd, hh⟩ := h.sim.get hk rfl hr
    subst h0
    have hi' : i < ds.length := by rw [← hd.length]; exact hi
    refine ⟨⟨ds[i], by rw [cell?_of_heap hh]; simp [hi']⟩, frozen?_of_heap hh, ?_⟩
    refine h.set hk rfl hr hkept hother ⟨rfl, hc0, ds.set i v', by rw [setL_eq]; exact hd.set i hv, ?_⟩ (.inl rfl)
    rw [heap_setCell_self hh]; simp [Array.setIfInBounds_def, hi']
  | arr sz n get T =>
    obtain ⟨h0, c, hh, hsz, hn, hget⟩ := h.sim.get hk rfl hr
    subst h0
    have hi' : i < c.size := Nat.lt_of_lt_of_le hi hn
    refine ⟨⟨c[i], by rw [cell?_of_heap hh]; simp [hi']⟩, frozen?_of_heap hh, ?_⟩
    refine h.set hk rfl hr hkept hother ⟨rfl, _, heap_setCell_self hh v', by simpa using hsz, by simpa using hn, ?_⟩ (.inl rfl)
    intro j hj
    unfold updG
    by_cases hji : j = i
    · subst hji
      exact ⟨v', by simp [Array.getElem?_setIfInBounds, hi'], by simp [Nat.beq_refl]; exact hv⟩
    · obtain ⟨u, hu, hR⟩ := hget j hj
      have hb : Nat.beq j i = false := by cases hb : Nat.beq j i with | false => rfl | true => exact absurd (Nat.eq_of_beq_eq_true hb) hji
      exact ⟨u, by rw [Nat.add_zero, Array.getElem?_setIfInBounds_ne (Ne.symm hji)]; exact hu, by rw [hb]; exact hR⟩
  | view => exact hi.elim
  | gone => exact hi.elim
  | loop => exact hi.elim

/-- A new block. -/
theorem St.alloc (h : St C nt ρ E M a w) (obj : Obj) (cap : Nat) {o : VObj} (ho : ObjR (ρ ++ [some (w.heap.size, 0, cap)]) (w.alloc obj) w.heap.size 0 cap o) :
    St C nt (ρ ++ [some (w.heap.size, 0, cap)]) E (M ++ [o]) a (w.alloc obj) := by
  refine ⟨h.sim.add (fun k p b x y hk hp hr => ?_) ho, h.env.mono (Ren.le_append _ _), h.size, h.defs_of rfl (fun x hx => by rw [Below.heap_alloc w obj x (heap_lt hx)]; exact hx), Ren.le_trans h.le (Ren.le_append _ _),
    h.kept.trans (Kept.alloc C.W w obj) (fun _ hx => .inl hx), ?_⟩
  · have hb := (h.sim.get hk hp hr).lt hp
    exact ⟨Below.heap_alloc w obj b hb, by omega⟩
  · rintro x ⟨k, p, y, z, hk, hp, hr⟩
    rcases Nat.lt_or_ge k M.length with hkl | hkl
    · rw [List.getElem?_append_left hkl] at hk
      exact h.own x ⟨k, p, y, z, hk, hp, (Ren.at_append (h.sim.len ▸ hkl)).1 hr⟩
    · have : k = M.length := by
        rcases Nat.lt_or_ge k (M.length + 1) with h' | h'
        · omega
        · rw [List.getElem?_eq_none (by simp; omega)] at hk; cases hk
      subst this
      unfold Ren.at at hr
      rw [← h.sim.len] at hr
      simp at hr
      exact .inr (hr.1 ▸ h.kept.size)
end

end Vm
end Go.Proofs.YtcafmkekkcbamaaGreat
namespace Go.Proofs.YtcafmkekkcbamaaGreat
open Go.RowKit
namespace Vm

inductive VX
  | t (n : Nat)
  | k (v : Value)

inductive EqC | bool | ptr | slc | fn | str (n : Nat)
inductive VI
  | mov (x : VX)
  | pick (c a b : VX)
  | alloc (T : TypeId) (zc : List Value)
  | box (T : TypeId) (x : VX)
  | build (zc : List Value) (ps : List (Nat × Nat × VX))
  | bsl (T : TypeId) (len : Nat) (zc : List Value) (ps : List (Nat × Nat × VX))
  | ld (agg : Bool) (n : Nat) (x : VX)
  | st (n : Nat) (x y : VX)
  | nil (x : VX)
  | bin (op : BinOp) (x y : VX)
  | eqv (c : EqC) (neg : Bool) (x y : VX)
  | neg (x : VX)
  | not (x : VX)
  | conv (k : IntKind) (x : VX)
  | mkf (f : FuncId) (fst caps : List VX)
  | mks (T sz bytes : Nat) (zc : List Value) (len cap : VX)
  | sl (sz : Nat) (x : VX) (lo hi mx : Option VX)
  | fad (off : Nat) (x : VX)
  | fld (agg : Bool) (off n : Nat) (x : VX)
  | ixa (sz : Nat) (x i : VX)
  | idx (agg : Bool) (len sz : Nat) (x i : VX)
  | ext (i : Nat) (x : VX)
  | call (f : VX) (args : List VX)
  | len (x : VX)
  | slen (x : VX)
  | mm (max : Bool) (x y : VX)
  | app (T sz bytes : Nat) (x y : VX)
  | clr (sz : Nat) (zc : List Value) (x : VX)
  | dead

def xv (E : Env) : VX → Option Value
  | .t n => eget E n
  | .k v => some v
def xvs (E : Env) : List VX → Option (List Value)
  | [] => some []
  | x :: l => match xv E x with
    | some v => (match xvs E l with
      | some vs => some (v :: vs)
      | none => none)
    | none => none

/-- A test: where it is known, one way alone. (A structure: the kernel must not look into it.) -/
structure Br (b : Bool) (t e : Prop) : Prop where
  onT : b = true → t
  onF : b = false → e
theorem Br.tt {t e : Prop} (ht : t) : Br true t e := ⟨fun _ => ht, fun h => Bool.noConfusion h⟩
theorem Br.ff {t e : Prop} (he : e) : Br false t e := ⟨fun h => Bool.noConfusion h, fun _ => he⟩
theorem Br.ott {t e : Prop} (h : Br true t e) : t := h.onT rfl
theorem Br.off {t e : Prop} (h : Br false t e) : e := h.onF rfl
theorem Br.yes {b : Bool} {t e : Prop} (h : b = true) (ht : t) : Br b t e := by subst h; exact Br.tt ht
theorem Br.no {b : Bool} {t e : Prop} (h : b = false) (he : e) : Br b t e := by subst h; exact Br.ff he
theorem Br.both {b : Bool} {t e : Prop} (ht : b = true → t) (he : b = false → e) : Br b t e := ⟨ht, he⟩
theorem Br.out {b : Bool} {t : Prop} (h : Br b t False) : b = true ∧ t := by
  cases b
  · exact (h.off).elim
  · exact ⟨rfl, h.ott⟩

def inK : IntKind → Int → Bool
  | .i64, z => decide (-9223372036854775808 ≤ z) && decide (z ≤ 9223372036854775807)
  | .u8, z => decide (0 ≤ z) && decide (z ≤ 255)
  | .i32, z => decide (-2147483648 ≤ z) && decide (z ≤ 2147483647)
  | .u16, z => decide (0 ≤ z) && decide (z ≤ 65535)
  | .u32, z => decide (0 ≤ z) && decide (z ≤ 4294967295)
  | .u64, z => decide (0 ≤ z) && decide (z ≤ 18446744073709551615)
  | _, _ => false
theorem inK_wrap {k : IntKind} {z : Int} (h : inK k z = true) : k.wrap z = z := by
  cases k <;> simp [inK] at h <;> simp [IntKind.wrap, IntKind.signed, IntKind.bits] <;> omega

/-- `n` cells of an object, from a place on. -/
def rangeG (get : Nat → Value) (o : Nat) : Nat → List Value
  | 0 => []
  | n + 1 => get o :: rangeG get (o + 1) n
def takeO : Nat → List Value → Option (List Value)
  | 0, _ => some []
  | n + 1, v :: l => (match takeO n l with
    | some r => some (v :: r)
    | none => none)
  | _ + 1, [] => none

def evLd (M : VMem) (k o : Nat) (agg : Bool) (n : Nat) (K : Value → Prop) : Prop :=
  match M[k]? with
  | some (.cells cs _) => (match agg with
    | true => (match takeO n (cs.drop o) with
      | some l => K (.agg ⟨l⟩)
      | none => False)
    | false => (match cs[o]? with
      | some v => K v
      | none => False))
  | some (.arr _ m get _) => (match agg with
    | true => Br (decide (o + n ≤ m)) (K (.agg ⟨rangeG get o n⟩)) False
    | false => Br (decide (o < m)) (K (get o)) False)
  | some (.view m get) => (match agg with
    | true => Br (decide (o + n ≤ m)) (K (.agg ⟨rangeG get o n⟩)) False
    | false => Br (decide (o < m)) (K (get o)) False)
  | _ => False

def updL (p : VObj) (i : Nat) : List Value → VObj
  | [] => p
  | v :: vs => updL (p.upd i v) (i + 1) vs
def allOne : List Value → Bool
  | [] => true
  | v :: l => (match v.oneCell' with
    | true => allOne l
    | false => false)
def natLe : Nat → Nat → Bool := Nat.ble
def evSt (M : VMem) (k o n : Nat) (vs : List Value) (K : VMem → Prop) : Prop :=
  match Nat.beq vs.length n, allOne vs with
  | true, true => (match M[k]? with
    | some (.cells cs T) => (match Nat.ble (o + n) cs.length with
      | true => K (setL M k (updL (.cells cs T) o vs))
      | false => False)
    | some (.arr sz m get T) => Br (decide (o + n ≤ m)) (K (setL M k (updL (.arr sz m get T) o vs))) False
    | _ => False)
  | _, _ => False

def fillO : List Value → List (Nat × Nat × Value) → Option (List Value)
  | cs, [] => some cs
  | cs, (off, n, v) :: ps =>
    match Nat.beq v.cells.toList.length n, Nat.ble (off + n) cs.length with
    | true, true => fillO (cs.take off ++ v.cells.toList ++ cs.drop (off + n)) ps
    | _, _ => none
def partsO (E : Env) : List (Nat × Nat × VX) → Option (List (Nat × Nat × Value))
  | [] => some []
  | (a, n, x) :: l => match xv E x, partsO E l with
    | some v, some r => some ((a, n, v) :: r)
    | _, _ => none

def bytesEq : List UInt8 → List UInt8 → Bool
  | [], [] => true
  | a :: x, b :: y => (match Nat.beq a.toNat b.toNat with
    | true => bytesEq x y
    | false => false)
  | _, _ => false
def strEq (s t : ByteArray) : Bool := bytesEq s.data.toList t.data.toList
theorem bytesEq_eq : ∀ (x y : List UInt8), bytesEq x y = (x == y)
  | [], [] => rfl
  | [], _ :: _ => rfl
  | _ :: _, [] => rfl
  | a :: x, b :: y => by
    simp only [bytesEq]
    have ih := bytesEq_eq x y
    by_cases h : a = b
    · subst h; rw [Nat.beq_refl]; simp [ih]
    · have : Nat.beq a.toNat b.toNat = false := by
        cases hb : Nat.beq a.toNat b.toNat with
        | false => rfl
        | true => exact absurd (UInt8.toNat_inj.1 (Nat.eq_of_beq_eq_true hb)) h
      rw [this]
      simp [h]
theorem strEq_toList (s t : ByteArray) : (s.toList == t.toList) = strEq s t := by
  rw [ByteArray.toList_eq, ByteArray.toList_eq]; exact (bytesEq_eq _ _).symm
theorem strEq_iff {s t : ByteArray} : strEq s t = true ↔ s = t := by
  unfold strEq
  rw [bytesEq_eq]
  constructor
  · intro h
    have h := eq_of_beq h
    cases s with | mk s => cases t with | mk t => exact congrArg ByteArray.mk (Array.ext' h)
  · rintro rfl; simp

def evBin (op : BinOp) (a b : Value) (K : Value → Prop) : Prop :=
  match a, b with
  | .int k x, .int k' y => (match op with
    | .add => (match decide (k = k') with
      | true => Br (inK k (x + y)) (K (.int k (x + y))) (K (.int k (k.wrap (x + y))))
      | false => False)
    | .sub => (match decide (k = k') with
      | true => Br (inK k (x - y)) (K (.int k (x - y))) (K (.int k (k.wrap (x - y))))
      | false => False)
    | .mul => (match decide (k = k') with
      | true => Br (inK k (x * y)) (K (.int k (x * y))) (K (.int k (k.wrap (x * y))))
      | false => False)
    | .quo => (match decide (k = k') with
      | true => Br (decide (y ≠ 0)) (Br (inK k (x.tdiv y)) (K (.int k (x.tdiv y))) (K (.int k (k.wrap (x.tdiv y))))) False
      | false => False)
    | .rem => (match decide (k = k') with
      | true => Br (decide (y ≠ 0)) (K (.int k (x.tmod y))) False
      | false => False)
    | .and => (match decide (k = k') with
      | true => K (.int k (k.wrap ((BitVec.ofInt k.bits x &&& BitVec.ofInt k.bits y).toNat)))
      | false => False)
    | .shl => Br (decide (0 ≤ y)) (K (.int k (k.wrap (x * 2 ^ (min y.toNat k.bits))))) False
    | .shr => Br (decide (0 ≤ y)) (K (.int k (x.fdiv (2 ^ (min y.toNat k.bits))))) False
    | .eql => (match decide (k = k') with
      | true => K (.bool (decide (x = y)))
      | false => False)
    | .neq => (match decide (k = k') with
      | true => K (.bool (!decide (x = y)))
      | false => False)
    | .lss => (match decide (k = k') with
      | true => K (.bool (decide (x < y)))
      | false => False)
    | .leq => (match decide (k = k') with
      | true => K (.bool (decide (x ≤ y)))
      | false => False)
    | .gtr => (match decide (k = k') with
      | true => K (.bool (decide (y < x)))
      | false => False)
    | .geq => (match decide (k = k') with
      | true => K (.bool (decide (y ≤ x)))
      | false => False)
    | _ => False)
  | .string s, .string t => (match op with
    | .eql => K (.bool (strEq s t))
    | .neq => K (.bool (!(strEq s t)))
    | .add => Br (decide ((s.size + t.size : Int) ≤ 9223372036854775807)) (K (.string (s ++ t))) False
    | _ => False)
  | _, _ => False

def intsEq : Nat → List Value → List Value → Option Bool
  | 0, [], [] => some true
  | n + 1, .int k x :: l, .int k' y :: l' => (match decide (k = k'), intsEq n l l' with
    | true, some b => some (decide (x = y) && b)
    | _, _ => none)
  | _, _, _ => none
def eqvO (c : EqC) (a b : Value) : Option Bool :=
  match c, a, b with
  | .bool, .bool x, .bool y => some (x == y)
  | .ptr, .pointer none, .pointer none => some true
  | .ptr, .pointer (some _), .pointer none => some false
  | .ptr, .pointer none, .pointer (some _) => some false
  | .slc, .slice none _ _, .slice none _ _ => some true
  | .slc, .slice (some _) _ _, .slice none _ _ => some false
  | .str n, .agg xs, .agg ys => intsEq n xs.toList ys.toList
  | .fn, .nilFunc, .nilFunc => some true
  | .fn, .func _ _ _, .nilFunc => some false
  | _, _, _ => none

/-- A bound of a slice expression. -/
def evBd (E : Env) (x : Option VX) (dflt : Nat) (top : Nat) (K : Nat → Prop) : Prop :=
  match x with
  | none => K dflt
  | some x => (match xv E x with
    | some (.int _ i) => Br (decide (0 ≤ i)) (Br (decide (i ≤ (top : Int))) (K i.toNat) False) False
    | _ => False)

/-- The upper bound of a slice expression. -/
def evHi (E : Env) (mx hi : Option VX) (len m : Nat) (K : Nat → Prop) : Prop :=
  match hi with
  | none => (match mx with
    | none => Br (Nat.ble len m) (K len) False
    | some _ => False)
  | some x => evBd E (some x) len m K
def evSl (sz : Nat) (lo : Option VX) (ad : Option Addr) (m h l : Nat) (K : Value → Prop) : Prop :=
  match ad with
  | none => K (.slice none (h - l) (m - l))
  | some ⟨k, o, none⟩ => (match lo with
    | none => K (.slice (some ⟨k, o, none⟩) h m)
    | some _ => Br (Nat.beq m l) (K (.slice (some ⟨k, o, some 0⟩) 0 0)) (K (.slice (some ⟨k, o + l * sz, none⟩) (h - l) (m - l))))
  | _ => False

def xvOr (E : Env) (x : VX) (K : Value → Prop) : Prop :=
  match xv E x with
  | some v => K v
  | none => False

/-- What a call of a function comes to. -/
def VCallF (P : Program) (f : FuncId) (args : List Value) (M : VMem) (K : Value → VMem → Prop) : Prop :=
  ∀ (r : Option Nat) (C : Ctx) (nt : Nat) (ρ : Ren) (E : Env) (a : Act) (w : World) (args' : List Value) (next : Act → World → Prop) (Q : Exit → Act → World → Prop) (o : Oper),
    St C nt ρ E M a w → VRs ρ args args' →
    (∀ v v' M' ρ' w', K v M' → VR ρ' v v' → ρ.le ρ' → St C nt ρ' E M' a w' → next (a.put o.dst v') w') →
    o.uponIn { Fence.wide with round := r } 0 P a next Q ((callFunc f ⟨args'⟩).run P w)
/-- What a call of a loop's body comes to. -/
def VYield (P : Program) (k : Nat) (args : List Value) (M : VMem) (K : Value → VMem → Prop) : Prop :=
  ∀ (r : Option Nat) (C : Ctx) (nt : Nat) (ρ : Ren) (E : Env) (a : Act) (w : World) (args' : List Value) (next : Act → World → Prop) (Q : Exit → Act → World → Prop) (o : Oper) (b base cap : Nat),
    St C nt ρ E M a w → VRs ρ args args' → ρ.at k b base cap →
    (∀ v v' M' ρ' w', K v M' → VR ρ' v v' → ρ.le ρ' → St C nt ρ' E M' a w' → next (a.put o.dst v') w') →
    o.uponIn { Fence.wide with round := r } 0 P a next Q ((Instr.yield b ⟨args'⟩).run P w)

def nilG : Nat → Value := fun _ => undef
def appG (n : Nat) (get get' : Nat → Value) : Nat → Value := fun i => bif Nat.blt i n then get i else get' (i - n)
/-- The cells that are appended: how many, which. -/
def evSrc (M : VMem) (sz : Nat) (x : Value) (K : Nat → (Nat → Value) → Prop) : Prop :=
  match x with
  | .slice none l _ => (match l with
    | 0 => K 0 nilG
    | _ => False)
  | .slice (some ⟨_, _, some _⟩) _ _ => K 0 nilG
  | .slice (some ⟨k, o, none⟩) l _ => (match M[k]? with
    | some (.cells cs _) => (match takeO (l * sz) (cs.drop o) with
      | some r => (match allOne r with
        | true => K l (fun i => r.getD i undef)
        | false => False)
      | none => False)
    | some (.arr _ m get _) => Br (decide (o + l * sz ≤ m)) ((∀ i, i < l * sz → (get (o + i)).oneCell' = true) ∧ K l (fun i => get (o + i))) False
    | some (.view m get) => Br (decide (o + l * sz ≤ m)) ((∀ i, i < l * sz → (get (o + i)).oneCell' = true) ∧ K l (fun i => get (o + i))) False
    | _ => False)
  | _ => False

def clrG (o n sz : Nat) (zc : List Value) (get : Nat → Value) : Nat → Value := fun i => bif Nat.ble o i && Nat.blt i (o + n) then zc.getD ((i - o) % sz) undef else get i
/-- What appending comes to. -/
def evApp (M : VMem) (T sz bytes : Nat) (u : Value) (m : Nat) (get' : Nat → Value) (K : Value → VMem → Prop) : Prop :=
  match u with
  | .slice none 0 0 => (match m with
    | 0 => K (.slice none 0 0) M
    | m + 1 => Br (decide ((m + 1) * bytes ≤ 140737488355328)) (K (.slice (some ⟨M.length, 0, none⟩) (m + 1) (m + 1)) (M ++ [.arr sz ((m + 1) * sz) get' T])) False)
  | .slice (some ⟨k, 0, none⟩) len cap => (match M[k]? with
    | some (.cells cs T') => (match Nat.beq T T', Nat.ble (cap * sz) cs.length, Nat.ble len cap with
      | true, true, true => Br (decide ((len + m) * bytes ≤ 140737488355328)) (K (.slice (some ⟨M.length, 0, none⟩) (len + m) (len + m)) (setL M k .gone ++ [.arr sz ((len + m) * sz) (appG (len * sz) (fun i => cs.getD i undef) get') T])) False
      | _, _, _ => False)
    | some (.arr sz' n get T') => (match Nat.beq T T', Nat.beq sz sz' with
      | true, true => Br (decide (cap * sz ≤ n)) (Br (decide (len ≤ cap)) (Br (decide ((len + m) * bytes ≤ 140737488355328)) (K (.slice (some ⟨M.length, 0, none⟩) (len + m) (len + m)) (setL M k .gone ++ [.arr sz ((len + m) * sz) (appG (len * sz) get get') T])) False) False) False
      | _, _ => False)
    | _ => False)
  | _ => False

def ev (P : Program) (i : VI) (E : Env) (M : VMem) (K : Value → VMem → Prop) : Prop :=
  match i with
  | .mov x => xvOr E x fun v => K v M
  | .pick c a b => xvOr E c fun v => (match v with
    | .bool t => Br t (xvOr E a fun v => K v M) (xvOr E b fun v => K v M)
    | _ => False)
  | .alloc T zc => K (.pointer (some ⟨M.length, 0, none⟩)) (M ++ [.cells zc T])
  | .box T x => xvOr E x fun v => K (.pointer (some ⟨M.length, 0, none⟩)) (M ++ [.cells v.cells.toList T])
  | .build zc ps => (match partsO E ps with
    | some l => (match fillO zc l with
      | some cs => K (.agg ⟨cs⟩) M
      | none => False)
    | none => False)
  | .bsl T len zc ps => (match partsO E ps with
    | some l => (match fillO zc l with
      | some cs => K (.slice (some ⟨M.length, 0, none⟩) len len) (M ++ [.cells cs T])
      | none => False)
    | none => False)
  | .ld agg n x => xvOr E x fun v => (match v with
    | .pointer (some ⟨k, o, none⟩) => evLd M k o agg n fun v => K v M
    | _ => False)
  | .st n x y => xvOr E x fun v => (match v with
    | .pointer (some ⟨k, o, none⟩) => xvOr E y fun u => evSt M k o n u.cells.toList fun M' => K undef M'
    | _ => False)
  | .nil x => xvOr E x fun v => (match v with
    | .pointer (some ad) => K (.pointer (some ad)) M
    | .func f xs cs => (match f with
      | .func g => K (.func (.func g) xs cs) M
      | .yield g => K (.func (.yield g) xs cs) M
      | _ => False)
    | _ => False)
  | .bin op x y => xvOr E x fun u => xvOr E y fun v => evBin op u v fun r => K r M
  | .eqv c neg x y => xvOr E x fun u => xvOr E y fun v => (match eqvO c u v with
    | some b => (match neg with
      | true => K (.bool (!b)) M
      | false => K (.bool b) M)
    | none => False)
  | .neg x => xvOr E x fun v => (match v with
    | .int k n => Br (inK k (0 - n)) (K (.int k (0 - n)) M) (K (.int k (k.wrap (0 - n))) M)
    | _ => False)
  | .not x => xvOr E x fun v => (match v with
    | .bool b => K (.bool (!b)) M
    | _ => False)
  | .conv k x => xvOr E x fun v => (match v with
    | .int _ n => Br (inK k n) (K (.int k n) M) (K (.int k (k.wrap n)) M)
    | _ => False)
  | .mkf f fst caps => (match xvs E fst with
    | some u => (match xvs E caps with
      | some l => K (.func (.func f) ⟨u⟩ ⟨l⟩) M
      | none => False)
    | none => False)
  | .mks T sz bytes zc len cap => xvOr E len fun u => xvOr E cap fun v => (match u, v with
    | .int _ l, .int _ c => Br (decide (0 ≤ l)) (Br (decide (l ≤ c)) (Br (decide ((bytes : Int) * c ≤ 140737488355328)) (Br (decide (c ≤ 9223372036854775807))
        (K (.slice (some ⟨M.length, 0, none⟩) l.toNat c.toNat) (M ++ [.arr sz (c.toNat * sz) (fun i => zc.getD (i % sz) undef) T])) False) False) False) False
    | _, _ => False)
  | .sl sz x lo hi mx => xvOr E x fun v => (match v with
    | .slice ad len cap => evBd E mx cap cap fun m => evHi E mx hi len m fun h => evBd E lo 0 h fun l => evSl sz lo ad m h l fun v => K v M
    | _ => False)
  | .fad off x => xvOr E x fun v => (match v with
    | .pointer (some ⟨k, o, none⟩) => K (.pointer (some ⟨k, o + off, none⟩)) M
    | _ => False)
  | .fld agg off n x => xvOr E x fun v => (match v with
    | .agg cs => (match agg with
      | true => K (.agg ⟨(cs.toList.drop off).take n⟩) M
      | false => (match cs.toList[off]? with
        | some v => K v M
        | none => False))
    | _ => False)
  | .ixa sz x i => xvOr E x fun u => xvOr E i fun v => (match u, v with
    | .slice (some ⟨k, o, none⟩) len _, .int _ j => Br (decide (0 ≤ j)) (Br (decide (j < (len : Int))) (K (.pointer (some ⟨k, o + j.toNat * sz, none⟩)) M) False) False
    | _, _ => False)
  | .idx agg len sz x i => xvOr E x fun u => xvOr E i fun v => (match u, v with
    | .agg cs, .int _ j => Br (decide (0 ≤ j)) (Br (decide (j < (len : Int))) (match agg with
        | true => K (.agg ⟨(cs.toList.drop (j.toNat * sz)).take sz⟩) M
        | false => (match cs.toList[j.toNat * sz]? with
          | some v => K v M
          | none => False)) False) False
    | _, _ => False)
  | .ext i x => xvOr E x fun v => (match v with
    | .tuple vs => (match vs.toList[i]? with
      | some v => K v M
      | none => False)
    | _ => False)
  | .call f args => xvOr E f fun fv => (match xvs E args with
    | some l => (match fv with
      | .func (.func g) xs cs => VCallF P g (xs.toList ++ l ++ cs.toList) M K
      | .func (.yield k) _ _ => VYield P k l M K
      | _ => False)
    | none => False)
  | .len x => xvOr E x fun v => (match v with
    | .slice _ n _ => K (.int .i64 n) M
    | _ => False)
  | .slen x => xvOr E x fun v => (match v with
    | .string s => K (.int .i64 s.size) M
    | _ => False)
  | .mm mx x y => xvOr E x fun u => xvOr E y fun v => (match u, v with
    | .int k a, .int _ b => (match mx with
      | true => K (.int k (if a < b then b else a)) M
      | false => K (.int k (if b < a then b else a)) M)
    | _, _ => False)
  | .app T sz bytes x y => xvOr E x fun u => xvOr E y fun v => evSrc M sz v fun m get' => evApp M T sz bytes u m get' K
  | .clr sz zc x => xvOr E x fun v => (match v with
    | .slice none _ _ => K (.tuple #[]) M
    | .slice (some ⟨k, o, none⟩) n _ => (match M[k]? with
      | some (.arr sz' m get T) => Br (decide (o + n * sz ≤ m)) (K (.tuple #[]) (setL M k (.arr sz' m (clrG o (n * sz) sz zc get) T))) False
      | _ => False)
    | _ => False)
  | .dead => False

end Vm
end Go.Proofs.YtcafmkekkcbamaaGreat
namespace Go.Proofs.YtcafmkekkcbamaaGreat
open Go.RowKit
namespace Vm

def scalarK : Value → Bool
  | .bool _ | .int _ _ | .string _ | .pointer none | .slice none _ _ | .nilFunc | .nilIface | .map none => true
  | _ => false
def constK : Value → Bool
  | .agg cs => cs.toList.all scalarK
  | .tuple cs => cs.toList.isEmpty
  | v => scalarK v
theorem VR.scalar (ρ : Ren) {v : Value} (h : scalarK v = true) : VR ρ v v := by
  cases v with
  | bool b => exact .bool b
  | int k n => exact .int k n
  | string s => exact .str s
  | pointer a => cases a with | none => exact .pnil | some a => simp [scalarK] at h
  | slice a l c => cases a with | none => exact .snil l c | some a => simp [scalarK] at h
  | nilFunc => exact .fnil
  | nilIface => exact .inil
  | map r => cases r with | none => exact .mnil | some a => simp [scalarK] at h
  | _ => simp [scalarK] at h
theorem VRs.scalars (ρ : Ren) {l : List Value} (h : l.all scalarK = true) : VRs ρ l l := by
  induction l with
  | nil => exact .nil
  | cons v l ih => simp at h; exact .cons _ _ _ _ (VR.scalar ρ h.1) (ih (by simpa using h.2))
theorem VR.const (ρ : Ren) {v : Value} (h : constK v = true) : VR ρ v v := by
  cases v with
  | agg cs => exact .agg _ _ (VRs.scalars ρ h)
  | tuple cs =>
    obtain ⟨l⟩ := cs
    cases l with
    | nil => exact .tuple _ _ .nil
    | cons v l => simp [constK] at h
  | _ => exact VR.scalar ρ h

def cx : Operand → Option VX
  | .tmp t => some (.t t)
  | .const v => if constK v then some (.k v) else none
  | .func f => some (.k (.func (.func f) #[] #[]))
  | .global _ => none
def cxs : List Operand → Option (List VX)
  | [] => some []
  | x :: l => match cx x, cxs l with
    | some y, some m => some (y :: m)
    | _, _ => none

section
variable {C : Ctx} {nt : Nat} {ρ : Ren} {E : Env} {M : VMem} {a : Act} {w : World}
theorem St.opd (h : St C nt ρ E M a w) {x : Operand} {y : VX} (hx : cx x = some y) {v : Value} (hv : xv E y = some v) : VR ρ v (a.eval x) := by
  cases x with
  | tmp t =>
    simp [cx] at hx; subst hx
    obtain ⟨v', h1, h2⟩ := h.eval hv
    rw [h1]; exact h2
  | const u =>
    simp only [cx] at hx
    split at hx
    · rename_i hk; cases hx; simp [xv] at hv; subst hv; exact VR.const ρ hk
    · cases hx
  | func f => simp [cx] at hx; subst hx; simp [xv] at hv; subst hv; exact .func f [] [] [] [] .nil .nil
  | global g => simp [cx] at hx
theorem St.opds (h : St C nt ρ E M a w) : ∀ {xs : List Operand} {ys : List VX}, cxs xs = some ys → ∀ {vs : List Value}, xvs E ys = some vs → VRs ρ vs (xs.map a.eval)
  | [], ys, hx, vs, hv => by simp [cxs] at hx; subst hx; simp [xvs] at hv; subst hv; exact .nil
  | x :: xs, ys, hx, vs, hv => by
    simp only [cxs] at hx
    split at hx
    · rename_i y m h1 h2
      cases hx
      simp only [xvs] at hv
      split at hv
      · rename_i v h3
        split at hv
        · rename_i vs' h4
          cases hv
          exact .cons _ _ _ _ (h.opd h1 h3) (h.opds h2 h4)
        · cases hv
      · cases hv
    · cases hx
end

theorem xvOr_out {E : Env} {x : VX} {K : Value → Prop} (h : xvOr E x K) : ∃ v, xv E x = some v ∧ K v := by
  unfold xvOr at h
  split at h
  · rename_i v hv; exact ⟨v, hv, h⟩
  · exact h.elim

/-- What an operation that is no call does. -/
def Does (P : Program) (o : Oper) (E : Env) (M : VMem) (K : Value → VMem → Prop) : Prop :=
  ∀ (C : Ctx) (nt : Nat) (ρ : Ren) (a : Act) (w : World), St C nt ρ E M a w →
    ∃ v v' M' ρ' w', ((execOp a.eval o).run P w = .ok (.value v') w' ∨ ((execOp a.eval o).run P w = .ok .skip w' ∧ v' = Go.undef)) ∧ K v M' ∧ VR ρ' v v' ∧ ρ.le ρ' ∧ St C nt ρ' E M' a w'

section
variable {P : Program} {o : Oper} {E : Env} {M : VMem} {K : Value → VMem → Prop}

theorem does_mov {x : Operand} (ho : o.op = .move x ∨ o.op = .assign x) {y : VX} (hx : cx x = some y) (h : ev P (.mov y) E M K) : Does P o E M K := by
  intro C nt ρ a w hs
  obtain ⟨v, hv, hk⟩ := xvOr_out h
  refine ⟨v, a.eval x, M, ρ, w, .inl ?_, hk, hs.opd hx hv, ρ.le_refl, hs⟩
  rcases ho with ho | ho <;> simp [execOp, ho]

theorem VR.bool_inv {ρ : Ren} {b : Bool} {v' : Value} (h : VR ρ (.bool b) v') : v' = .bool b := by cases h; rfl
theorem VR.int_inv {ρ : Ren} {k : IntKind} {n : Int} {v' : Value} (h : VR ρ (.int k n) v') : v' = .int k n := by cases h; rfl
theorem VR.str_inv {ρ : Ren} {s : ByteArray} {v' : Value} (h : VR ρ (.string s) v') : v' = .string s := by cases h; rfl
theorem VR.ptr_inv {ρ : Ren} {k off : Nat} {v' : Value} (h : VR ρ (.pointer (some ⟨k, off, none⟩)) v') : ∃ b base cap, ρ.at k b base cap ∧ v' = .pointer (some ⟨b, off + base, none⟩) := by
  cases h; exact ⟨_, _, _, by assumption, rfl⟩

theorem does_pick {c x y : Operand} (ho : o.op = .pick c x y) {c' x' y' : VX} (hc : cx c = some c') (hx : cx x = some x') (hy : cx y = some y') (h : ev P (.pick c' x' y') E M K) : Does P o E M K := by
  intro C nt ρ a w hs
  obtain ⟨v, hv, hk⟩ := xvOr_out h
  have hcv := hs.opd hc hv
  cases v with
  | bool t =>
    have hb := VR.bool_inv hcv
    cases t with
    | true =>
      obtain ⟨v, hv, hk⟩ := xvOr_out (Br.ott hk)
      exact ⟨v, a.eval x, M, ρ, w, .inl (by simp [execOp, ho, hb, asBool]), hk, hs.opd hx hv, ρ.le_refl, hs⟩
    | false =>
      obtain ⟨v, hv, hk⟩ := xvOr_out (Br.off hk)
      exact ⟨v, a.eval y, M, ρ, w, .inl (by simp [execOp, ho, hb, asBool]), hk, hs.opd hy hv, ρ.le_refl, hs⟩
  | _ => exact hk.elim

theorem does_nil {x : Operand} (ho : o.op = .nilCheck x) {y : VX} (hx : cx x = some y) (h : ev P (.nil y) E M K) : Does P o E M K := by
  intro C nt ρ a w hs
  obtain ⟨v, hv, hk⟩ := xvOr_out h
  have hxv := hs.opd hx hv
  cases v with
  | pointer p =>
    cases p with
    | none => exact hk.elim
    | some ad =>
      refine ⟨_, a.eval x, M, ρ, w, .inl ?_, hk, hxv, ρ.le_refl, hs⟩
      generalize hu : a.eval x = u at hxv
      cases hxv
      simp [execOp, ho, hu]
  | func f xs cs =>
    cases f with
    | func g =>
      refine ⟨_, a.eval x, M, ρ, w, .inl ?_, hk, hxv, ρ.le_refl, hs⟩
      generalize hu : a.eval x = u at hxv
      cases hxv
      simp [execOp, ho, hu]
    | yield g =>
      refine ⟨_, a.eval x, M, ρ, w, .inl ?_, hk, hxv, ρ.le_refl, hs⟩
      generalize hu : a.eval x = u at hxv
      cases hxv
      simp [execOp, ho, hu]
    | _ => exact hk.elim
  | _ => exact hk.elim


theorem zero_run {T : TypeId} {i : TypeInfo} {z : Value} (hi : P.info? T = some i) (hz : i.zero = some z) (w : World) : (zeroValue T).run P w = .ok z w := by
  simp [zeroValue, typeInfo, hi, hz]

theorem objR_new {ρ : Ren} {w : World} {cs ds : List Value} {T : TypeId} (h : VRs ρ cs ds) :
    ObjR (ρ ++ [some (w.heap.size, 0, 0)]) (w.alloc (.cells ⟨ds⟩ T)) w.heap.size 0 0 (.cells cs T) :=
  ⟨rfl, rfl, ds, h.mono (Ren.le_append _ _), heap_alloc_new w _⟩

theorem at_new (ρ : Ren) (M : VMem) (hl : ρ.length = M.length) (b cap : Nat) : Ren.at (ρ ++ [some (b, 0, cap)]) M.length b 0 cap := by
  unfold Ren.at; rw [← hl]; simp

theorem vr_new (ρ : Ren) (M : VMem) (hl : ρ.length = M.length) (b cap : Nat) : VR (ρ ++ [some (b, 0, cap)]) (.pointer (some ⟨M.length, 0, none⟩)) (.pointer (some ⟨b, 0, none⟩)) := by
  have := VR.ptr (ρ := ρ ++ [some (b, 0, cap)]) M.length 0 b 0 cap (at_new ρ M hl b cap)
  simpa using this

theorem does_alloc {T : TypeId} (ho : o.op = .alloc T) {i : TypeInfo} {z : Value} (hi : P.info? T = some i) (hz : i.zero = some z) {zc : List Value} (hzc : zc = z.cells.toList) (hzk : zc.all scalarK = true)
    (h : ev P (.alloc T zc) E M K) : Does P o E M K := by
  intro C nt ρ a w hs
  subst hzc
  refine ⟨_, .pointer (some ⟨w.heap.size, 0, none⟩), _, ρ ++ [some (w.heap.size, 0, 0)], w.alloc (.cells z.cells T), .inl ?_, h, vr_new ρ M hs.sim.len _ _, Ren.le_append _ _, ?_⟩
  · simp [execOp, ho, Instr.alloc, zero_run hi hz, newVar, newRow]
  · exact hs.alloc _ 0 (by simpa using objR_new (VRs.scalars ρ hzk))

theorem does_box {T : TypeId} {x : Operand} (ho : o.op = .box T x) {y : VX} (hx : cx x = some y) (h : ev P (.box T y) E M K) : Does P o E M K := by
  intro C nt ρ a w hs
  obtain ⟨v, hv, hk⟩ := xvOr_out h
  have hxv := hs.opd hx hv
  refine ⟨_, .pointer (some ⟨w.heap.size, 0, none⟩), _, ρ ++ [some (w.heap.size, 0, 0)], w.alloc (.cells (a.eval x).cells T), .inl ?_, hk, vr_new ρ M hs.sim.len _ _, Ren.le_append _ _, ?_⟩
  · simp [execOp, ho, Instr.box, newVar, newRow]
  · exact hs.alloc _ 0 (by simpa using objR_new hxv.cells)

/-- Filling a row by parts: as the model does it, and as it is reckoned here. -/
theorem foldl_set (l : List Value) : ∀ (off : Nat) (cs : Array Value), off + l.length ≤ cs.size →
    ((l.toArray.zipIdx).foldl (fun (cs : Array Value) (p : Value × Nat) => cs.setIfInBounds (off + p.2) p.1) cs).toList = cs.toList.take off ++ l ++ cs.toList.drop (off + l.length) := by
  have key : ∀ (l : List Value) (n off : Nat) (cs : List Value), off + n + l.length ≤ cs.length →
      (l.zipIdx n).foldl (fun (cs : List Value) (p : Value × Nat) => cs.set (off + p.2) p.1) cs = cs.take (off + n) ++ l ++ cs.drop (off + n + l.length) := by
    intro l
    induction l with
    | nil => intro n off cs h; simp
    | cons v l ih =>
      intro n off cs h
      simp only [List.zipIdx_cons, List.foldl_cons]
      rw [ih (n + 1) off _ (by simp at h ⊢; omega)]
      have hlt : off + n < cs.length := by simp at h; omega
      rw [show off + (n + 1) = off + n + 1 by omega, List.take_succ_eq_append_getElem (by simpa using hlt), List.take_set_of_le (by omega)]
      simp only [List.getElem_set_self, List.append_assoc, List.length_cons, List.singleton_append, List.cons_append, List.nil_append]
      rw [List.drop_set_of_lt (by omega), show off + n + 1 + l.length = off + n + (l.length + 1) by omega]
  intro off cs h
  have h2 := key l 0 off cs.toList (by simpa using h)
  simp only [Nat.add_zero] at h2
  rw [← h2]
  have h3 : ∀ (m : List (Value × Nat)) (cs : Array Value), (m.foldl (fun (cs : Array Value) (p : Value × Nat) => cs.setIfInBounds (off + p.2) p.1) cs).toList = m.foldl (fun (cs : List Value) (p : Value × Nat) => cs.set (off + p.2) p.1) cs.toList := by
    intro m
    induction m with
    | nil => intro cs; rfl
    | cons p m ih => intro cs; simp only [List.foldl_cons]; rw [ih]; congr 1; simp
  rw [← h3, ← Array.foldl_toList]
  simp

/-- The parts of a composite, here and there. -/
inductive PartsR (ρ : Ren) (place : Nat → Option (Nat × Nat)) : List (Nat × Nat × Value) → List (Nat × Value) → Prop
  | nil : PartsR ρ place [] []
  | cons (off n : Nat) (v : Value) (i : Nat) (v' : Value) (l : List (Nat × Nat × Value)) (l' : List (Nat × Value)) (hp : place i = some (off, n)) (hv : VR ρ v v') (h : PartsR ρ place l l') :
      PartsR ρ place ((off, n, v) :: l) ((i, v') :: l')

theorem fill_fillO {ρ : Ren} {place : Nat → Option (Nat × Nat)} {ps : List (Nat × Nat × Value)} {ps' : List (Nat × Value)} (hp : PartsR ρ place ps ps') :
    ∀ {cs r : List Value} {cs' : Array Value}, VRs ρ cs cs'.toList → fillO cs ps = some r → ∃ r', Instr.fill place cs' ps' = some r' ∧ VRs ρ r r'.toList := by
  induction hp with
  | nil => intro cs r cs' hc h; simp [fillO] at h; subst h; exact ⟨cs', rfl, hc⟩
  | cons off n v i v' l l' hpl hv _ ih =>
    intro cs r cs' hc h
    simp only [fillO] at h
    split at h
    · rename_i h1 h2
      have e1 := Nat.eq_of_beq_eq_true h1
      have e2 := Nat.le_of_ble_eq_true h2
      have hlen : v'.cells.size = n := by rw [← e1, hv.cells.length]; rfl
      have hcl := hc.length
      simp only [Instr.fill, hpl]
      have hno : ¬ (v'.cells.size ≠ n ∨ off + v'.cells.size > cs'.size) := by
        rintro (h' | h')
        · exact h' hlen
        · rw [hlen] at h'; simp at hcl; omega
      have hb : (decide (v'.cells.size ≠ n) || decide (off + v'.cells.size > cs'.size)) = false := by
        simp only [not_or] at hno
        simp only [Bool.or_eq_false_iff, decide_eq_false_iff_not]
        exact hno
      rw [if_neg (by rw [hb]; decide)]
      have hl : v'.cells.toList.length = n := by simpa using hlen
      have hf := foldl_set v'.cells.toList off cs' (by rw [hl]; simp at hcl; omega)
      refine ih (cs' := (v'.cells.zipIdx.foldl (fun cs x => cs.setIfInBounds (off + x.2) x.1) cs')) ?_ h
      have hf' : (v'.cells.zipIdx.foldl (fun cs x => cs.setIfInBounds (off + x.2) x.1) cs').toList = cs'.toList.take off ++ v'.cells.toList ++ cs'.toList.drop (off + n) := by
        rw [← hl, ← hf]
      rw [hf']
      exact ((hc.take off).append hv.cells).append (hc.drop (off + n))
    · cases h
end
end Vm
end Go.Proofs.YtcafmkekkcbamaaGreat
namespace Go.Proofs.YtcafmkekkcbamaaGreat
open Go.RowKit
namespace Vm

section
variable {P : Program} {o : Oper} {E : Env} {M : VMem} {K : Value → VMem → Prop}

def placeF (P : Program) (t : TypeId) : Option (Nat → Option (Nat × Nat)) :=
  match P.underlying t with
  | some (.array _ e) => (P.info? e).map fun ie => fun i => some (i * ie.size, ie.size)
  | some (.struct fields) => (fields.toList.mapM (fun f => (P.info? f.type).map fun i => (f.offset, i.size))).map fun places => (places.toArray[·]?)
  | _ => none
def cparts (place : Nat → Option (Nat × Nat)) : List (Nat × Operand) → Option (List (Nat × Nat × VX))
  | [] => some []
  | (i, x) :: l => match place i, cx x, cparts place l with
    | some (off, n), some y, some r => some ((off, n, y) :: r)
    | _, _, _ => none

theorem built_eq {t : TypeId} {place : Nat → Option (Nat × Nat)} (hp : placeF P t = some place) {i : TypeInfo} {z : Value} (hi : P.info? t = some i) (hz : i.zero = some z) (parts : List (Nat × Value)) :
    P.built t parts = Instr.fill place z.cells parts := by
  unfold placeF at hp
  unfold Program.built
  split at hp
  · rename_i n e hu
    cases he : P.info? e with
    | none => simp [he] at hp
    | some ie => simp [he] at hp; subst hp; simp [hi, hu, hz, he]
  · rename_i fields hu
    cases hpl : fields.toList.mapM (fun f => (P.info? f.type).map fun i => (f.offset, i.size)) with
    | none => simp [hpl] at hp
    | some places => simp [hpl] at hp; subst hp; simp [hi, hu, hz, hpl]
  · cases hp

theorem partsR_of {C : Ctx} {nt : Nat} {ρ : Ren} {a : Act} {w : World} (hs : St C nt ρ E M a w) {place : Nat → Option (Nat × Nat)} :
    ∀ {ps : List (Nat × Operand)} {qs : List (Nat × Nat × VX)}, cparts place ps = some qs → ∀ {l : List (Nat × Nat × Value)}, partsO E qs = some l → PartsR ρ place l (ps.map fun (i, x) => (i, a.eval x))
  | [], qs, hc, l, hl => by simp [cparts] at hc; subst hc; simp [partsO] at hl; subst hl; exact .nil
  | (i, x) :: ps, qs, hc, l, hl => by
    simp only [cparts] at hc
    split at hc
    · rename_i off n y r h1 h2 h3
      cases hc
      simp only [partsO] at hl
      split at hl
      · rename_i v r' h4 h5
        cases hl
        exact .cons off n v i _ _ _ h1 (hs.opd h2 h4) (partsR_of hs h3 h5)
      · cases hl
    · cases hc

theorem does_build {t : TypeId} {parts : Array (Nat × Operand)} (ho : o.op = .build t parts) {place : Nat → Option (Nat × Nat)} (hp : placeF P t = some place) {i : TypeInfo} {z : Value} (hi : P.info? t = some i)
    (hz : i.zero = some z) {zc : List Value} (hzc : zc = z.cells.toList) (hzk : zc.all scalarK = true) {qs : List (Nat × Nat × VX)} (hq : cparts place parts.toList = some qs) (h : ev P (.build zc qs) E M K) : Does P o E M K := by
  intro C nt ρ a w hs
  subst hzc
  simp only [ev] at h
  split at h
  · rename_i l hl
    split at h
    · rename_i cs hcs
      obtain ⟨r', hr, hR⟩ := fill_fillO (partsR_of hs hq hl) (VRs.scalars ρ hzk) hcs
      refine ⟨_, .agg r', _, ρ, w, .inl ?_, h, .agg _ _ hR, ρ.le_refl, hs⟩
      have hb : P.built t (parts.map fun (i, x) => (i, a.eval x)).toList = some r' := by rw [built_eq hp hi hz]; simpa using hr
      simp [execOp, ho, run_build w t _ r' hb]
    · exact h.elim
  · exact h.elim

theorem does_bsl {t e : TypeId} {len : Nat} {parts : Array (Nat × Operand)} (ho : o.op = .buildSlice t len parts) (hu : P.underlying t = some (.slice e)) {i : TypeInfo} {z : Value} (hi : P.info? e = some i)
    (hz : i.zero = some z) {zc : List Value} (hzc : zc = if len * i.size = 0 then [] else ((Array.range (len * i.size)).map (z.cells[· % z.cells.size]!)).toList) (hzk : zc.all scalarK = true) (hbig : len * i.size ≤ 2 ^ 24)
    {qs : List (Nat × Nat × VX)} (hq : cparts (fun j => some (j * i.size, i.size)) parts.toList = some qs) (h : ev P (.bsl e len zc qs) E M K) : Does P o E M K := by
  intro C nt ρ a w hs
  simp only [ev] at h
  split at h
  · rename_i l hl
    split at h
    · rename_i cs hcs
      have hzR : VRs ρ zc zc := VRs.scalars ρ hzk
      obtain ⟨r', hr, hR⟩ := fill_fillO (cs' := ⟨zc⟩) (partsR_of hs hq hl) hzR hcs
      have hslice : VR (ρ ++ [some (w.heap.size, 0, 0)]) (.slice (some ⟨M.length, 0, none⟩) len len) (.slice (some ⟨w.heap.size, 0, none⟩) len len) := by
        have := VR.slice (ρ := ρ ++ [some (w.heap.size, 0, 0)]) M.length 0 len len w.heap.size 0 0 len (at_new ρ M hs.sim.len _ _) (.inl rfl)
        simpa using this
      refine ⟨_, .slice (some ⟨w.heap.size, 0, none⟩) len len, _, ρ ++ [some (w.heap.size, 0, 0)], w.alloc (.cells r' e), .inl ?_, h, hslice, Ren.le_append _ _, hs.alloc _ 0 (by simpa using objR_new hR)⟩
      have hnb : ¬ (2 ^ 24 < len * i.size) := by omega
      have hr' : Instr.fill (fun j => some (j * i.size, i.size)) (⟨zc⟩ : Array Value) (List.map (fun x => (x.fst, a.eval x.snd)) parts.toList) = some r' := hr
      by_cases h0 : len * i.size = 0
      · have e0 : (⟨zc⟩ : Array Value) = (Array.range (len * i.size)).map (fun x => (#[] : Array Value)[x % 0]!) := by rw [hzc, if_pos h0]; simp [h0]
        rw [e0] at hr'
        simp [execOp, ho, Instr.buildSlice, run_underlying hu, sizeOf, typeInfo, hi, hnb, h0, newRow] at hr' ⊢
        simp [hr']
      · have e0 : (⟨zc⟩ : Array Value) = (Array.range (len * i.size)).map (fun x => z.cells[x % z.cells.size]!) := by rw [hzc, if_neg h0]
        rw [e0] at hr'
        simp [execOp, ho, Instr.buildSlice, run_underlying hu, sizeOf, typeInfo, zeroValue, hz, hi, hnb, h0, newRow, hr']
    · exact h.elim
  · exact h.elim

theorem takeO_some : ∀ {n : Nat} {l r : List Value}, takeO n l = some r → r = l.take n ∧ r.length = n
  | 0, l, r, h => by cases l <;> (simp [takeO] at h; subst h; simp)
  | n + 1, [], r, h => by simp [takeO] at h
  | n + 1, v :: l, r, h => by
    simp only [takeO] at h
    split at h
    · rename_i r' h'
      cases h
      obtain ⟨h1, h2⟩ := takeO_some h'
      exact ⟨by simp [h1], by simp [h2]⟩
    · cases h
theorem rangeG_length (get : Nat → Value) : ∀ (o n : Nat), (rangeG get o n).length = n
  | _, 0 => rfl
  | o, n + 1 => by simp [rangeG, rangeG_length]
theorem rangeG_get (get : Nat → Value) : ∀ (o n i : Nat), i < n → (rangeG get o n)[i]? = some (get (o + i))
  | _, 0, _, h => by omega
  | o, n + 1, 0, _ => by simp [rangeG]
  | o, n + 1, i + 1, h => by
    simp only [rangeG, List.getElem?_cons_succ]
    rw [rangeG_get get (o + 1) n i (by omega), show o + 1 + i = o + (i + 1) by omega]

/-- Several cells of an object are read. -/
theorem cells_read {ρ : Ren} {w : World} {b base cap off : Nat} {p : VObj} (hp : ObjR ρ w b base cap p) : ∀ (n : Nat) (l : List Value), l.length = n → (∀ i v, l[i]? = some v → p.has (off + i) v) →
    ∃ l', VRs ρ l l' ∧ l'.length = n ∧ ∀ j v, l'[j]? = some v → w.cell? ⟨b, off + base + j, none⟩ = some v := by
  intro n l hn h
  subst hn
  induction l generalizing off with
  | nil => exact ⟨[], .nil, rfl, fun j v hj => by simp at hj⟩
  | cons v l ih =>
    obtain ⟨v', h1, h2⟩ := hp.cell (h 0 v (by simp))
    obtain ⟨l', h3, h4, h5⟩ := ih (off := off + 1) (fun i u hu => by have := h (i + 1) u (by simpa using hu); rwa [show off + 1 + i = off + (i + 1) by omega])
    refine ⟨v' :: l', .cons _ _ _ _ h2 h3, by simp [h4], ?_⟩
    intro j u hj
    cases j with
    | zero => simp at hj; subst hj; simpa using h1
    | succ j => have := h5 j u (by simpa using hj); rwa [show off + 1 + base + j = off + base + (j + 1) by omega] at this

theorem addr_add (b o n : Nat) : (⟨b, o, none⟩ : Addr).add n = ⟨b, o + n, none⟩ := by unfold Addr.add; split <;> simp_all

def aggB (P : Program) (t : TypeId) : Option Bool := match P.underlying t with
  | some (.struct _) => some true
  | some (.array _ _) => some true
  | some _ => some false
  | none => none
theorem aggB_run {t : TypeId} {b : Bool} (h : aggB P t = some b) (w : World) : (isAgg t).run P w = .ok b w := by
  unfold aggB at h
  split at h
  · rename_i fs hu; cases h; simp [isAgg, run_underlying hu]
  · rename_i n e hu; cases h; simp [isAgg, run_underlying hu]
  · rename_i d h1 h2 hu; cases h
    simp only [isAgg, Sem.run_bind, run_underlying hu, Result.andThen_ok]
    rfl
  · cases h

theorem does_ld {t : TypeId} {x : Operand} (ho : o.op = .load t x) {y : VX} (hx : cx x = some y) {agg : Bool} (ha : aggB P t = some agg) {i : TypeInfo} (hi : P.info? t = some i) (h : ev P (.ld agg i.size y) E M K) : Does P o E M K := by
  intro C nt ρ a w hs
  obtain ⟨v, hv, hk⟩ := xvOr_out h
  have hxv := hs.opd hx hv
  have hag := aggB_run ha w
  split at hk
  · rename_i k off
    obtain ⟨b, base, cap, hr, he⟩ := VR.ptr_inv hxv
    -- what is shown of an object that has these cells
    have one : ∀ (p : VObj) (u : Value), M[k]? = some p → p.has off u → agg = false → K u M →
        ∃ v v' M' ρ' w', ((execOp a.eval o).run P w = .ok (.value v') w' ∨ ((execOp a.eval o).run P w = .ok .skip w' ∧ v' = Go.undef)) ∧ K v M' ∧ VR ρ' v v' ∧ ρ.le ρ' ∧ St C nt ρ' E M' a w' := by
      intro p u hp hu hg hK
      obtain ⟨v', h1, h2⟩ := (hs.sim.get hp (VObj.has_seen hu) hr).cell hu
      subst hg
      exact ⟨u, v', M, ρ, w, .inl (by simp [execOp, ho, he, Instr.loadAt, Instr.sureAddr, loadVar, hag, h1]), hK, h2, ρ.le_refl, hs⟩
    have many : ∀ (p : VObj) (l : List Value), M[k]? = some p → p.seen = true → l.length = i.size → (∀ j u, l[j]? = some u → p.has (off + j) u) → agg = true → K (.agg ⟨l⟩) M →
        ∃ v v' M' ρ' w', ((execOp a.eval o).run P w = .ok (.value v') w' ∨ ((execOp a.eval o).run P w = .ok .skip w' ∧ v' = Go.undef)) ∧ K v M' ∧ VR ρ' v v' ∧ ρ.le ρ' ∧ St C nt ρ' E M' a w' := by
      intro p l hp hse hl hu hg hK
      obtain ⟨l', h1, h2, h3⟩ := cells_read (off := off) (hs.sim.get hp hse hr) i.size l hl hu
      subst hg
      have hrun := run_loadCells_list (P := P) w ⟨b, off + base, none⟩ l' (fun j v hj => by rw [addr_add]; exact h3 j v hj)
      rw [h2] at hrun
      exact ⟨_, .agg ⟨l'⟩, M, ρ, w, .inl (by simp [execOp, ho, he, Instr.loadAt, Instr.sureAddr, loadVar, hag, sizeOf, typeInfo, hi, hrun]), hK, .agg _ _ h1, ρ.le_refl, hs⟩
    unfold evLd at hk
    split at hk
    · rename_i cs T hM
      split at hk
      · split at hk
        · rename_i l hl
          obtain ⟨h1, h2⟩ := takeO_some hl
          refine many _ l hM rfl h2 (fun j u hj => ?_) rfl hk
          have hj2 : j < i.size := by
            rcases Nat.lt_or_ge j l.length with h' | h'
            · omega
            · rw [List.getElem?_eq_none h'] at hj; cases hj
          rw [h1, List.getElem?_take_of_lt hj2, List.getElem?_drop] at hj
          exact hj
        · exact hk.elim
      · split at hk
        · rename_i u hu; exact one _ u hM hu rfl hk
        · exact hk.elim
    · rename_i sz m get T hM
      split at hk
      · obtain ⟨hb, hk⟩ := Br.out hk
        have hb := of_decide_eq_true hb
        refine many _ _ hM rfl (rangeG_length _ _ _) (fun j u hj => ?_) rfl hk
        have hj2 : j < i.size := by
          rcases Nat.lt_or_ge j (rangeG get off i.size).length with h' | h'
          · rwa [rangeG_length] at h'
          · rw [List.getElem?_eq_none h'] at hj; cases hj
        rw [rangeG_get get off i.size j hj2] at hj; cases hj
        exact ⟨by omega, rfl⟩
      · obtain ⟨hb, hk⟩ := Br.out hk
        exact one _ _ hM ⟨of_decide_eq_true hb, rfl⟩ rfl hk
    · rename_i m get hM
      split at hk
      · obtain ⟨hb, hk⟩ := Br.out hk
        have hb := of_decide_eq_true hb
        refine many _ _ hM rfl (rangeG_length _ _ _) (fun j u hj => ?_) rfl hk
        have hj2 : j < i.size := by
          rcases Nat.lt_or_ge j (rangeG get off i.size).length with h' | h'
          · rwa [rangeG_length] at h'
          · rw [List.getElem?_eq_none h'] at hj; cases hj
        rw [rangeG_get get off i.size j hj2] at hj; cases hj
        exact ⟨by omega, rfl⟩
      · obtain ⟨hb, hk⟩ := Br.out hk
        exact one _ _ hM ⟨of_decide_eq_true hb, rfl⟩ rfl hk
    · exact hk.elim
  · exact hk.elim

end
end Vm
end Go.Proofs.YtcafmkekkcbamaaGreat
namespace Go.Proofs.YtcafmkekkcbamaaGreat
open Go.RowKit
namespace Vm

section
variable {P : Program} {o : Oper} {E : Env} {M : VMem} {K : Value → VMem → Prop}

theorem allOne_out : ∀ {l : List Value}, allOne l = true → ∀ v ∈ l, v.oneCell' = true
  | [], _, v, hv => by cases hv
  | x :: l, h, v, hv => by
    simp only [allOne] at h
    split at h
    · rename_i hx
      rcases List.mem_cons.1 hv with rfl | hv
      · exact hx
      · exact allOne_out h v hv
    · cases h
theorem upd_owned {p : VObj} {i : Nat} {v : Value} : (p.upd i v).owned = p.owned := by cases p <;> rfl
theorem length_setL {α : Type} (l : List α) (i : Nat) (v : α) : (setL l i v).length = l.length := by rw [setL_eq]; simp
theorem upd_holds {p : VObj} {i j : Nat} {v : Value} (h : p.holds j) : (p.upd i v).holds j := by
  cases p with
  | cells cs T => simpa [VObj.upd, VObj.holds, length_setL] using h
  | arr sz n get T => exact h
  | _ => exact h.elim
theorem getElem?_setL_self {α : Type} {l : List α} {i : Nat} {v : α} (h : i < l.length) : (setL l i v)[i]? = some v := by rw [setL_eq]; simp [h]
theorem setL_setL {α : Type} (l : List α) (i : Nat) (u v : α) : setL (setL l i u) i v = setL l i v := by simp [setL_eq]
theorem setL_self {α : Type} {l : List α} {i : Nat} {v : α} (h : l[i]? = some v) : setL l i v = l := by
  rw [setL_eq]
  obtain ⟨hi, rfl⟩ := List.getElem?_eq_some_iff.1 h
  exact List.set_getElem_self hi
theorem lt_of_get {α : Type} {l : List α} {i : Nat} {v : α} (h : l[i]? = some v) : i < l.length := (List.getElem?_eq_some_iff.1 h).1

/-- Several cells are stored, one behind the other. -/
theorem St.stores {C : Ctx} {nt : Nat} {ρ : Ren} {a : Act} {k b base cap : Nat} : ∀ {vs vs' : List Value} {w : World} {M : VMem} {p : VObj} {i j : Nat} {b0 : Nat}, St C nt ρ E M a w → M[k]? = some p → ρ.at k b base cap →
    VRs ρ vs vs' → (∀ v ∈ vs', v.oneCell' = true) → (∀ x, x < vs.length → p.holds (i + x)) → b0 + j = i + base →
    ∃ w', (storeCells ⟨b, b0, none⟩ vs' j).run P w = .ok () w' ∧ St C nt ρ E (setL M k (updL p i vs)) a w'
  | [], vs', w, M, p, i, j, b0, hs, hk, hr, hv, h1, hh, hj => by
    cases hv
    refine ⟨w, rfl, ?_⟩
    simp only [updL]
    rw [setL_self hk]
    exact hs
  | v :: vs, vs', w, M, p, i, j, b0, hs, hk, hr, hv, h1, hh, hj => by
    cases hv with
    | cons _ v' _ vs'' hv1 hv2 =>
      have hi : p.holds i := by simpa using hh 0 (by simp)
      obtain ⟨⟨u, hu⟩, hf, hs'⟩ := hs.store hk hi hr hv1 (by rw [← hv1.oneCell]; exact h1 v' (by simp))
      have hk2 : (M.set k (p.upd i v))[k]? = some (p.upd i v) := by simp [lt_of_get hk]
      obtain ⟨w', h3, h4⟩ := St.stores (i := i + 1) (j := j + 1) (b0 := b0) hs' hk2 hr hv2 (fun x hx => h1 x (by simp [hx])) (fun x hx => upd_holds (by have := hh (x + 1) (by simpa using hx); rwa [show i + 1 + x = i + (x + 1) by omega])) (by omega)
      refine ⟨w', ?_, ?_⟩
      · have hst : (Go.store ((⟨b, b0, none⟩ : Addr).add j) v').run P w = .ok () (w.setCell ⟨b, i + base, none⟩ v') := by
          rw [addr_add, hj, run_store P w _ v' _ (h1 v' (by simp)), hu]
          simp [hf]
        simp only [storeCells, Sem.run_bind, hst, Result.andThen_ok, h3]
      · simp only [updL]
        rw [← setL_eq, setL_setL] at h4
        exact h4

theorem does_st {t : TypeId} {x y : Operand} (ho : o.op = .store t x y) {x' y' : VX} (hx : cx x = some x') (hy : cx y = some y') {i : TypeInfo} (hi : P.info? t = some i) (h : ev P (.st i.size x' y') E M K) : Does P o E M K := by
  intro C nt ρ a w hs
  obtain ⟨v, hv, hk⟩ := xvOr_out h
  have hxv := hs.opd hx hv
  split at hk
  · rename_i k off
    obtain ⟨b, base, cap, hr, he⟩ := VR.ptr_inv hxv
    obtain ⟨u, hu, hk⟩ := xvOr_out hk
    have hyv := (hs.opd hy hu).cells
    unfold evSt at hk
    split at hk
    · rename_i h1 h2
      have e1 := Nat.eq_of_beq_eq_true h1
      have hone : ∀ v ∈ (a.eval y).cells.toList, v.oneCell' = true := by
        intro v' hv'
        obtain ⟨j, hj, rfl⟩ := List.getElem_of_mem hv'
        have hj2 : j < u.cells.toList.length := by rw [hyv.length]; exact hj
        obtain ⟨v2, h3, h4⟩ := hyv.get (List.getElem?_eq_getElem hj2)
        have : v2 = (a.eval y).cells.toList[j] := by rw [List.getElem?_eq_getElem hj] at h3; cases h3; rfl
        rw [← this, h4.oneCell]
        exact allOne_out h2 _ (List.getElem_mem hj2)
      have hsize : ¬ ((a.eval y).cells.size ≠ i.size) := by
        have := hyv.length; simp at this; rw [← e1]; simp; omega
      have fin : ∀ (p : VObj), M[k]? = some p → (∀ x, x < u.cells.toList.length → p.holds (off + x)) → K Go.undef (setL M k (updL p off u.cells.toList)) →
          ∃ v v' M' ρ' w', ((execOp a.eval o).run P w = .ok (.value v') w' ∨ ((execOp a.eval o).run P w = .ok .skip w' ∧ v' = Go.undef)) ∧ K v M' ∧ VR ρ' v v' ∧ ρ.le ρ' ∧ St C nt ρ' E M' a w' := by
        intro p hM hh hK
        obtain ⟨w', h3, h4⟩ := St.stores (P := P) (j := 0) (b0 := off + base) hs hM hr hyv hone hh (by omega)
        refine ⟨Go.undef, Go.undef, _, ρ, w', .inr ⟨?_, rfl⟩, hK, VR.undef ρ, ρ.le_refl, h4⟩
        have h3' : (storeCells ⟨b, off + base, none⟩ (a.eval y).cells.toList).run P w = .ok () w' := h3
        simp only [execOp, ho, he, Instr.storeAt, Instr.sureAddr, storeVar, sizeOf, typeInfo, Sem.run_bind, Sem.run_pure, run_program, hi, Result.andThen_ok]
        rw [if_neg hsize]
        simp [h3']
      split at hk
      · rename_i cs T hM
        split at hk
        · rename_i hb
          have hb := Nat.le_of_ble_eq_true hb
          exact fin _ hM (fun x hx => by show off + x < cs.length; omega) hk
        · exact hk.elim
      · rename_i sz m get T hM
        obtain ⟨hb, hk⟩ := Br.out hk
        have hb := of_decide_eq_true hb
        exact fin _ hM (fun x hx => by show off + x < m; omega) hk
      · exact hk.elim
    · exact hk.elim
  · exact hk.elim

theorem int_beq (x y : Int) : (x == y) = decide (x = y) := by rw [Bool.eq_iff_iff]; simp
theorem wrap_of {k : IntKind} {z : Int} {K : Value → Prop} (h : Br (inK k z) (K (.int k z)) (K (.int k (k.wrap z)))) : K (.int k (k.wrap z)) := by
  cases hb : inK k z with
  | true => rw [inK_wrap hb]; exact h.onT hb
  | false => exact h.onF hb

theorem eqGuard_plain {op : BinOp} {t : TypeId} {x y : Operand} {u v : Value} (w : World) (hu : (∀ cs, u ≠ .agg cs) ∧ u ≠ .nilIface) : (eqGuard op t x y u v).run P w = .ok () w := by
  cases u with
  | agg cs => exact absurd rfl (hu.1 cs)
  | nilIface => exact absurd rfl hu.2
  | _ => cases op <;> rfl

/-- What an operator of two numbers, or two texts, comes to. -/
theorem evBin_run {op : BinOp} {t : TypeId} {u v : Value} {K : Value → Prop} (h : evBin op u v K) (w : World) : ∃ r, (binOp op t u v).run P w = .ok r w ∧ K r ∧ r.oneCell' = true ∧ (∀ ρ : Ren, VR ρ r r) ∧ (∀ cs, u ≠ .agg cs) ∧ u ≠ .nilIface := by
  unfold evBin at h
  split at h
  · rename_i k x k' y
    have hne : (∀ cs, Value.int k x ≠ .agg cs) ∧ Value.int k x ≠ .nilIface := ⟨fun cs => by simp, by simp⟩
    split at h
    case _ => -- add
      split at h
      · rename_i he; have he := of_decide_eq_true he; subst he
        exact ⟨_, by simp [binOp, Op.intArith], wrap_of h, rfl, fun ρ => .int _ _, hne⟩
      · exact h.elim
    case _ => -- sub
      split at h
      · rename_i he; have he := of_decide_eq_true he; subst he
        exact ⟨_, by simp [binOp, Op.intArith], wrap_of h, rfl, fun ρ => .int _ _, hne⟩
      · exact h.elim
    case _ => -- mul
      split at h
      · rename_i he; have he := of_decide_eq_true he; subst he
        exact ⟨_, by simp [binOp, Op.intArith], wrap_of h, rfl, fun ρ => .int _ _, hne⟩
      · exact h.elim
    case _ => -- quo
      split at h
      · rename_i he; have he := of_decide_eq_true he; subst he
        obtain ⟨hy, h⟩ := Br.out h
        have hy := of_decide_eq_true hy
        exact ⟨_, by simp [binOp, Op.intDiv, hy], wrap_of h, rfl, fun ρ => .int _ _, hne⟩
      · exact h.elim
    case _ => -- rem
      split at h
      · rename_i he; have he := of_decide_eq_true he; subst he
        obtain ⟨hy, h⟩ := Br.out h
        have hy := of_decide_eq_true hy
        exact ⟨_, by simp [binOp, Op.intDiv, hy], h, rfl, fun ρ => .int _ _, hne⟩
      · exact h.elim
    case _ => -- and
      split at h
      · rename_i he; have he := of_decide_eq_true he; subst he
        exact ⟨_, by simp [binOp, Op.intBits], h, rfl, fun ρ => .int _ _, hne⟩
      · exact h.elim
    case _ => -- shl
      obtain ⟨hy, h⟩ := Br.out h
      have hy := of_decide_eq_true hy
      exact ⟨_, by simp [binOp, Op.shift, Int.not_lt.2 hy], h, rfl, fun ρ => .int _ _, hne⟩
    case _ => -- shr
      obtain ⟨hy, h⟩ := Br.out h
      have hy := of_decide_eq_true hy
      exact ⟨_, by simp [binOp, Op.shift, Int.not_lt.2 hy], h, rfl, fun ρ => .int _ _, hne⟩
    case _ => -- eql
      split at h
      · rename_i he; have he := of_decide_eq_true he; subst he
        exact ⟨_, by simp [binOp, Op.intCmp, int_beq], h, rfl, fun ρ => .bool _, hne⟩
      · exact h.elim
    case _ => -- neq
      split at h
      · rename_i he; have he := of_decide_eq_true he; subst he
        exact ⟨_, by simp [binOp, Op.intCmp, bne, int_beq], h, rfl, fun ρ => .bool _, hne⟩
      · exact h.elim
    case _ => -- lss
      split at h
      · rename_i he; have he := of_decide_eq_true he; subst he
        exact ⟨_, by simp [binOp, Op.intCmp], h, rfl, fun ρ => .bool _, hne⟩
      · exact h.elim
    case _ => -- leq
      split at h
      · rename_i he; have he := of_decide_eq_true he; subst he
        exact ⟨_, by simp [binOp, Op.intCmp], h, rfl, fun ρ => .bool _, hne⟩
      · exact h.elim
    case _ => -- gtr
      split at h
      · rename_i he; have he := of_decide_eq_true he; subst he
        exact ⟨_, by simp [binOp, Op.intCmp], h, rfl, fun ρ => .bool _, hne⟩
      · exact h.elim
    case _ => -- geq
      split at h
      · rename_i he; have he := of_decide_eq_true he; subst he
        exact ⟨_, by simp [binOp, Op.intCmp], h, rfl, fun ρ => .bool _, hne⟩
      · exact h.elim
    case _ => exact h.elim
  · rename_i s t'
    have hne : (∀ cs, Value.string s ≠ .agg cs) ∧ Value.string s ≠ .nilIface := ⟨fun cs => by simp, by simp⟩
    split at h
    · exact ⟨_, by simp [binOp, Op.stringOp, strEq_toList], h, rfl, fun ρ => .bool _, hne⟩
    · exact ⟨_, by simp [binOp, Op.stringOp, strEq_toList], h, rfl, fun ρ => .bool _, hne⟩
    · obtain ⟨hb, h⟩ := Br.out h
      have hb := of_decide_eq_true hb
      have hnb : ¬ (((s.size + t'.size : Nat) : Int) > IntKind.i64.max) := by simp [IntKind.max, IntKind.signed, IntKind.bits]; omega
      exact ⟨_, by simp only [binOp, Op.stringOp]; rw [if_neg hnb]; rfl, h, rfl, fun ρ => .str _, hne⟩
    · exact h.elim
  · exact h.elim
end
end Vm
end Go.Proofs.YtcafmkekkcbamaaGreat
namespace Go.Proofs.YtcafmkekkcbamaaGreat
open Go.RowKit
namespace Vm

section
variable {P : Program} {o : Oper} {E : Env} {M : VMem} {K : Value → VMem → Prop}

theorem evBin_same {op : BinOp} {u v : Value} {K : Value → Prop} (h : evBin op u v K) {ρ : Ren} {u' v' : Value} (hu : VR ρ u u') (hv : VR ρ v v') : u' = u ∧ v' = v := by
  unfold evBin at h
  split at h
  · exact ⟨VR.int_inv hu, VR.int_inv hv⟩
  · exact ⟨VR.str_inv hu, VR.str_inv hv⟩
  · exact h.elim

theorem does_bin {op : BinOp} {t t' : TypeId} {x y : Operand} (ho : o.op = .binOp op t x y t') {x' y' : VX} (hx : cx x = some x') (hy : cx y = some y') (h : ev P (.bin op x' y') E M K) : Does P o E M K := by
  intro C nt ρ a w hs
  obtain ⟨u, hu, h⟩ := xvOr_out h
  obtain ⟨v, hv, h⟩ := xvOr_out h
  obtain ⟨e1, e2⟩ := evBin_same h (hs.opd hx hu) (hs.opd hy hv)
  obtain ⟨r, h1, h2, h3, h4, h5⟩ := evBin_run (P := P) (t := t) h w
  exact ⟨r, r, M, ρ, w, .inl (by simp [execOp, ho, e1, e2, eqGuard_plain w h5, h1]), h2, h4 ρ, ρ.le_refl, hs⟩

/-- Are fields plain numbers, one behind the other? -/
def flatOk (P : Program) : List Field → Nat → Bool
  | [], _ => true
  | f :: l, i => (match P.underlying f.type with
    | some (.int _) => decide (f.name ≠ "_") && Nat.beq f.offset i && flatOk P l (i + 1)
    | _ => false)
def eqC (P : Program) (t : TypeId) : Option EqC := match P.underlying t with
  | some (.struct fs) => (match flatOk P fs.toList 0, P.stoodInHeld t, P.eqGuardType P.depth t with
    | true, false, false => some (.str fs.toList.length)
    | _, _, _ => none)
  | some .bool => some .bool
  | some (.pointer _) => some .ptr
  | some (.slice _) => some .slc
  | some (.func _ _ _) => some .fn
  | _ => none

/-- What '==' of two such values comes to. -/
def EqRun (P : Program) (t : TypeId) (u v : Value) (b : Bool) : Prop :=
  ((∀ cs, u ≠ .agg cs) ∧ u ≠ .nilIface) ∧ (∀ d w, (Op.equalIn (d + 1) t u v).run P w = .ok b w) ∧ (∀ k n, u ≠ .int k n) ∧ (∀ s, u ≠ .string s) ∧ (∀ k n, u ≠ .float k n) ∧ (∀ k n m, u ≠ .complex k n m)

theorem intsEq_same {ρ : Ren} : ∀ {n : Nat} {l l' : List Value} {b : Bool}, intsEq n l l' = some b → ∀ {r r' : List Value}, VRs ρ l r → VRs ρ l' r' → r = l ∧ r' = l'
  | 0, [], [], b, h, r, r', h1, h2 => by cases h1; cases h2; exact ⟨rfl, rfl⟩
  | n + 1, .int k x :: l, .int k' y :: l', b, h, r, r', h1, h2 => by
    simp only [intsEq] at h
    split at h
    · rename_i b' _ hb
      cases h1 with
      | cons _ v1 _ l1 g1 g2 =>
        cases h2 with
        | cons _ v2 _ l2 g3 g4 =>
          obtain ⟨e1, e2⟩ := intsEq_same hb g2 g4
          rw [VR.int_inv g1, VR.int_inv g3, e1, e2]
          exact ⟨rfl, rfl⟩
    · cases h
  | 0, [], _ :: _, _, h, _, _, _, _ => by simp [intsEq] at h
  | 0, _ :: _, _, _, h, _, _, _, _ => by simp [intsEq] at h

theorem eqFields_run {d : Nat} {xs ys : Array Value} : ∀ (fs : List Field) (i : Nat) (b : Bool) (w : World), flatOk P fs i = true → intsEq fs.length (xs.toList.drop i) (ys.toList.drop i) = some b → (Op.eqFields (d + 1) xs ys fs).run P w = .ok b w
  | [], i, b, w, _, h => by
    cases hx : xs.toList.drop i with
    | nil =>
      cases hy : ys.toList.drop i with
      | nil => rw [hx, hy] at h; simp [intsEq] at h; subst h; simp [Op.eqFields]
      | cons y l => rw [hx, hy] at h; simp [intsEq] at h
    | cons x l => rw [hx] at h; simp [intsEq] at h
  | f :: fs, i, b, w, hf, h => by
    simp only [flatOk] at hf
    split at hf
    · rename_i kf hu
      simp only [Bool.and_eq_true, decide_eq_true_eq] at hf
      obtain ⟨⟨hn, ho⟩, hrest⟩ := hf
      have ho := Nat.eq_of_beq_eq_true ho
      cases hx : xs.toList.drop i with
      | nil => rw [hx] at h; simp [intsEq] at h
      | cons x lx =>
        cases hy : ys.toList.drop i with
        | nil => rw [hx, hy] at h; cases x <;> simp [intsEq] at h
        | cons y ly =>
          rw [hx, hy] at h
          cases x with
          | int k a =>
            cases y with
            | int k' c =>
              simp only [List.length_cons, intsEq] at h
              split at h
              · rename_i b' hk hb
                have hk := of_decide_eq_true hk
                subst hk
                cases h
                have gx : xs[i]? = some (.int k a) := by
                  have := congrArg (·[0]?) hx
                  simpa using this
                have gy : ys[i]? = some (.int k c) := by
                  have := congrArg (·[0]?) hy
                  simpa using this
                have ex : xs.toList.drop (i + 1) = lx := by rw [← List.drop_drop, hx]; rfl
                have ey : ys.toList.drop (i + 1) = ly := by rw [← List.drop_drop, hy]; rfl
                have ih := eqFields_run (d := d) (xs := xs) (ys := ys) fs (i + 1) b' w hrest (by rw [ex, ey]; exact hb)
                have hag : (isAgg f.type).run P w = .ok false w := aggB_run (b := false) (by simp [aggB, hu]) w
                simp only [Op.eqFields, if_pos hn, Sem.run_bind, part, hag, ho, gx, gy, Result.andThen_ok, Bool.false_eq_true, if_false, Sem.run_pure, run_equalIn_int w d f.type k kf a c hu, Sem.run_ite]
                by_cases hac : a = c
                · subst hac; simp [ih]
                · simp [hac]
              · cases h
            | _ => simp [intsEq] at h
          | _ => simp [intsEq] at h
    · cases hf

theorem eqs_run {n : Nat} {t : TypeId} {u v : Value} {b : Bool} (hc : eqC P t = some (.str n)) (hb : eqvO (.str n) u v = some b) {ρ : Ren} {u' v' : Value} (hu : VR ρ u u') (hv : VR ρ v v') :
    ∃ xs ys, u' = .agg xs ∧ v' = .agg ys ∧ P.eqGuardType P.depth t = false ∧ ∀ w, (Op.equalIn 10000 t (.agg xs) (.agg ys)).run P w = .ok b w := by
  unfold eqC at hc
  split at hc <;> try (cases hc; done)
  rename_i fs ht
  split at hc
  · rename_i h1 h2 h3
    cases hc
    cases u with
    | agg xs =>
      cases v with
      | agg ys =>
        obtain ⟨xs⟩ := xs
        obtain ⟨ys⟩ := ys
        simp only [eqvO] at hb
        cases hu with
        | agg _ xs' g1 =>
          cases hv with
          | agg _ ys' g2 =>
            obtain ⟨rfl, rfl⟩ := intsEq_same hb g1 g2
            refine ⟨⟨xs'⟩, ⟨ys'⟩, rfl, rfl, h3, fun w => ?_⟩
            have hfo : P.fieldsOf t = fs := by simp [Program.fieldsOf, ht]
            rw [run_equalIn_struct w 9999 t _ _ (by rw [hfo]; exact ht) h2, hfo]
            exact eqFields_run (d := 9998) fs.toList 0 b w h1 (by simpa using hb)
      | _ => simp [eqvO] at hb
    | _ => simp [eqvO] at hb
  · cases hc

theorem eqv_run {c : EqC} {t : TypeId} {u v : Value} {b : Bool} (hns : ∀ n, c ≠ .str n) (hc : eqC P t = some c) (hb : eqvO c u v = some b) {ρ : Ren} {u' v' : Value} (hu : VR ρ u u') (hv : VR ρ v v') : EqRun P t u' v' b := by
  unfold eqC at hc
  cases c with
  | str n => exact absurd rfl (hns n)
  | bool =>
    split at hc <;> first | cases hc | (exfalso; split at hc <;> cases hc)
    rename_i ht
    cases u <;> cases v <;> simp [eqvO] at hb
    subst hb
    rw [VR.bool_inv hu, VR.bool_inv hv]
    exact ⟨⟨fun cs => by simp, by simp⟩, fun d w => by simp only [Op.equalIn, Sem.run_bind, run_underlying ht, Result.andThen_ok]; rfl, by simp, by simp, by simp, by simp⟩
  | ptr =>
    split at hc <;> first | cases hc | (exfalso; split at hc <;> cases hc)
    rename_i e ht
    cases u with
    | pointer p =>
      cases v with
      | pointer q =>
        cases p with
        | none =>
          cases q with
          | none =>
            simp [eqvO] at hb; subst hb
            cases hu; cases hv
            exact ⟨⟨fun cs => by simp, by simp⟩, fun d w => by simp only [Op.equalIn, Sem.run_bind, run_underlying ht, Result.andThen_ok]; rfl, by simp, by simp, by simp, by simp⟩
          | some q =>
            simp [eqvO] at hb; subst hb
            cases hu; cases hv
            exact ⟨⟨fun cs => by simp, by simp⟩, fun d w => by simp only [Op.equalIn, Sem.run_bind, run_underlying ht, Result.andThen_ok]; rfl, by simp, by simp, by simp, by simp⟩
        | some p =>
          cases q with
          | none =>
            simp [eqvO] at hb; subst hb
            cases hu; cases hv
            exact ⟨⟨fun cs => by simp, by simp⟩, fun d w => by simp only [Op.equalIn, Sem.run_bind, run_underlying ht, Result.andThen_ok]; rfl, by simp, by simp, by simp, by simp⟩
          | some q => simp [eqvO] at hb
      | _ => cases p <;> simp [eqvO] at hb
    | _ => simp [eqvO] at hb
  | slc =>
    split at hc <;> first | cases hc | (exfalso; split at hc <;> cases hc)
    rename_i e ht
    cases u with
    | slice p l1 c1 =>
      cases v with
      | slice q l2 c2 =>
        cases p with
        | none =>
          cases q with
          | none =>
            simp [eqvO] at hb; subst hb
            cases hu; cases hv
            exact ⟨⟨fun cs => by simp, by simp⟩, fun d w => by simp only [Op.equalIn, Sem.run_bind, run_underlying ht, Result.andThen_ok]; rfl, by simp, by simp, by simp, by simp⟩
          | some q => simp [eqvO] at hb
        | some p =>
          cases q with
          | none =>
            simp [eqvO] at hb; subst hb
            cases hv
            cases hu <;> exact ⟨⟨fun cs => by simp, by simp⟩, fun d w => by simp only [Op.equalIn, Sem.run_bind, run_underlying ht, Result.andThen_ok]; rfl, by simp, by simp, by simp, by simp⟩
          | some q => simp [eqvO] at hb
      | _ => cases p <;> simp [eqvO] at hb
    | _ => simp [eqvO] at hb
  | fn =>
    split at hc <;> first | cases hc | (exfalso; split at hc <;> cases hc)
    rename_i e1 e2 e3 ht
    cases v with
    | nilFunc =>
      cases hv
      cases u with
      | nilFunc =>
        simp [eqvO] at hb; subst hb
        cases hu
        exact ⟨⟨fun cs => by simp, by simp⟩, fun d w => by simp only [Op.equalIn, Sem.run_bind, run_underlying ht, Result.andThen_ok]; rfl, by simp, by simp, by simp, by simp⟩
      | func f xs cs =>
        simp [eqvO] at hb; subst hb
        generalize hf : Value.func f xs cs = fv at hu
        cases hu <;> cases hf <;>
        exact ⟨⟨fun cs => by simp, by simp⟩, fun d w => by simp only [Op.equalIn, Sem.run_bind, run_underlying ht, Result.andThen_ok]; rfl, by simp, by simp, by simp, by simp⟩
      | _ => simp [eqvO] at hb
    | _ => cases u <;> simp [eqvO] at hb

theorem does_eqv {t t' : TypeId} {x y : Operand} {neg : Bool} (ho : o.op = .binOp (if neg then .neq else .eql) t x y t') {x' y' : VX} (hx : cx x = some x') (hy : cx y = some y') {c : EqC} (hc : eqC P t = some c) (h : ev P (.eqv c neg x' y') E M K) : Does P o E M K := by
  intro C nt ρ a w hs
  obtain ⟨u, hu, h1⟩ := xvOr_out h
  clear h
  obtain ⟨v, hv, h⟩ := xvOr_out h1
  clear h1
  have hxv := hs.opd hx hu
  have hyv := hs.opd hy hv
  generalize hxe : a.eval x = u' at hxv
  generalize hye : a.eval y = v' at hyv
  split at h
  · rename_i b hb
    by_cases hstr : ∃ n, c = .str n
    · obtain ⟨n, rfl⟩ := hstr
      obtain ⟨xs, ys, rfl, rfl, hg, hrun⟩ := eqs_run hc hb hxv hyv
      cases neg with
      | true => exact ⟨_, .bool (!b), M, ρ, w, .inl (by simp [execOp, ho, hxe, hye, run_eqGuard_agg w _ t x y xs ys hg, run_neq_struct, hrun]), h, .bool _, ρ.le_refl, hs⟩
      | false => exact ⟨_, .bool b, M, ρ, w, .inl (by simp [execOp, ho, hxe, hye, run_eqGuard_agg w _ t x y xs ys hg, run_eql_struct, hrun]), h, .bool _, ρ.le_refl, hs⟩
    obtain ⟨k0, k1, k2, k3, k4, k5⟩ := eqv_run (fun n e => hstr ⟨n, e⟩) hc hb hxv hyv
    have k1' : ∀ w, (Op.equal t u' v').run P w = .ok b w := k1 9999
    have hbin : ∀ w, (binOp (if neg then .neq else .eql) t u' v').run P w = .ok (.bool (if neg then !b else b)) w := by
      intro w
      cases u' with
      | int k n => exact absurd rfl (k2 k n)
      | string s => exact absurd rfl (k3 s)
      | float k n => exact absurd rfl (k4 k n)
      | complex k n m => exact absurd rfl (k5 k n m)
      | _ => cases neg <;> simp [binOp, k1']
    cases neg with
    | true => exact ⟨_, .bool (!b), M, ρ, w, .inl (by have := hbin w; simp at this; simp [execOp, ho, hxe, hye, eqGuard_plain w k0, this]), h, .bool _, ρ.le_refl, hs⟩
    | false => exact ⟨_, .bool b, M, ρ, w, .inl (by have := hbin w; simp at this; simp [execOp, ho, hxe, hye, eqGuard_plain w k0, this]), h, .bool _, ρ.le_refl, hs⟩
  · exact h.elim

theorem does_neg {t : TypeId} {x : Operand} (ho : o.op = .unOp .neg t x) {x' : VX} (hx : cx x = some x') (h : ev P (.neg x') E M K) : Does P o E M K := by
  intro C nt ρ a w hs
  obtain ⟨u, hu, h⟩ := xvOr_out h
  have hxv := hs.opd hx hu
  split at h
  · rename_i k n
    have he := VR.int_inv hxv
    refine ⟨_, .int k (k.wrap (0 - n)), M, ρ, w, .inl ?_, wrap_of (K := fun v => K v M) h, .int _ _, ρ.le_refl, hs⟩
    simp [execOp, ho, he, Op.unary, Op.intArith]
  · exact h.elim

theorem does_not {t : TypeId} {x : Operand} (ho : o.op = .unOp .not t x) {x' : VX} (hx : cx x = some x') (h : ev P (.not x') E M K) : Does P o E M K := by
  intro C nt ρ a w hs
  obtain ⟨u, hu, h⟩ := xvOr_out h
  have hxv := hs.opd hx hu
  split at h
  · rename_i b
    have he := VR.bool_inv hxv
    exact ⟨_, .bool (!b), M, ρ, w, .inl (by simp [execOp, ho, he, Op.unary]), h, .bool _, ρ.le_refl, hs⟩
  · exact h.elim

theorem does_conv {t t' : TypeId} {x : Operand} (ho : o.op = .convert t t' x) {x' : VX} (hx : cx x = some x') {k k0 : IntKind} (hk0 : P.underlying t = some (.int k0)) (hk : P.underlying t' = some (.int k)) (h : ev P (.conv k x') E M K) : Does P o E M K := by
  intro C nt ρ a w hs
  obtain ⟨u, hu, h⟩ := xvOr_out h
  have hxv := hs.opd hx hu
  split at h
  · rename_i k' n
    have he := VR.int_inv hxv
    refine ⟨_, .int k (k.wrap n), M, ρ, w, .inl ?_, wrap_of (K := fun v => K v M) h, .int _ _, ρ.le_refl, hs⟩
    simp [execOp, ho, he, convert, run_underlying hk0, run_underlying hk, Conv.intToInt]
  · exact h.elim

theorem map_toList_eq (xs : Array Operand) (a : Act) : (xs.map a.eval) = ⟨xs.toList.map a.eval⟩ := by apply Array.ext'; simp

theorem does_mkf {f : FuncId} {fst caps : Array Operand} (ho : o.op = .makeFunc (.func f) fst caps) {us : List VX} (hu : cxs fst.toList = some us) {ys : List VX} (hx : cxs caps.toList = some ys) (h : ev P (.mkf f us ys) E M K) : Does P o E M K := by
  intro C nt ρ a w hs
  simp only [ev] at h
  split at h
  · rename_i u hu'
    split at h
    · rename_i l hl
      have hU := hs.opds hu hu'
      have hR := hs.opds hx hl
      refine ⟨_, .func (.func f) ⟨fst.toList.map a.eval⟩ ⟨caps.toList.map a.eval⟩, M, ρ, w, .inl ?_, h, .func f _ _ _ _ hU hR, ρ.le_refl, hs⟩
      simp [execOp, ho, Instr.makeFunc, map_toList_eq]
    · exact h.elim
  · exact h.elim

theorem does_fad {s : TypeId} {f : Nat} {x : Operand} (ho : o.op = .fieldAddr s x f) {x' : VX} (hx : cx x = some x') {fields : Array Field} (hu : P.underlying s = some (.struct fields)) {g : Field} (hg : fields[f]? = some g)
    {i : TypeInfo} (hi : P.info? g.type = some i) (h0 : i.size ≠ 0) (h : ev P (.fad g.offset x') E M K) : Does P o E M K := by
  intro C nt ρ a w hs
  obtain ⟨u, hu', h⟩ := xvOr_out h
  have hxv := hs.opd hx hu'
  split at h
  · rename_i k off
    obtain ⟨b, base, cap, hr, he⟩ := VR.ptr_inv hxv
    refine ⟨_, .pointer (some ⟨b, off + g.offset + base, none⟩), M, ρ, w, .inl ?_, h, .ptr _ _ _ _ _ hr, ρ.le_refl, hs⟩
    simp [execOp, ho, Instr.fieldAt, run_underlying hu, hg, he, Instr.sureAddr, fieldPlace, sizeOf, typeInfo, hi, h0, addr_add, Nat.add_right_comm]
  · exact h.elim

theorem does_fld {s : TypeId} {f : Nat} {x : Operand} (ho : o.op = .field s x f) {x' : VX} (hx : cx x = some x') {fields : Array Field} (hu : P.underlying s = some (.struct fields)) {g : Field} (hg : fields[f]? = some g)
    {agg : Bool} (ha : aggB P g.type = some agg) {i : TypeInfo} (hi : P.info? g.type = some i) (h : ev P (.fld agg g.offset i.size x') E M K) : Does P o E M K := by
  intro C nt ρ a w hs
  obtain ⟨u, hu', h⟩ := xvOr_out h
  have hxv := hs.opd hx hu'
  have hag := aggB_run ha w
  split at h
  · rename_i cs
    generalize hxe : a.eval x = u' at hxv
    cases hxv with
    | agg xs ys hR =>
    split at h
    · refine ⟨_, .agg ⟨(ys.drop g.offset).take i.size⟩, M, ρ, w, .inl ?_, h, .agg _ _ ((hR.drop _).take _), ρ.le_refl, hs⟩
      have : (Array.mk ys).extract g.offset (g.offset + i.size) = ⟨(ys.drop g.offset).take i.size⟩ := by apply Array.ext'; simp
      simp [execOp, ho, Instr.field, run_underlying hu, hg, hxe, asAgg, part, hag, sizeOf, typeInfo, hi]
    · split at h
      · rename_i v hv
        obtain ⟨v', h1, h2⟩ := hR.get hv
        exact ⟨_, v', M, ρ, w, .inl (by simp [execOp, ho, Instr.field, run_underlying hu, hg, hxe, asAgg, part, hag, h1]), h, h2, ρ.le_refl, hs⟩
      · exact h.elim
  · exact h.elim

theorem does_ixa {t e : TypeId} {x y : Operand} (ho : o.op = .indexAddr t x y) {x' y' : VX} (hx : cx x = some x') (hy : cx y = some y') (hu : P.underlying t = some (.slice e)) {i : TypeInfo} (hi : P.info? e = some i)
    (h : ev P (.ixa i.size x' y') E M K) : Does P o E M K := by
  intro C nt ρ a w hs
  obtain ⟨u, hu', h1⟩ := xvOr_out h
  clear h
  obtain ⟨v, hv', h⟩ := xvOr_out h1
  clear h1
  have hxv := hs.opd hx hu'
  have hyv := hs.opd hy hv'
  split at h
  · rename_i k off len cap kk j
    obtain ⟨h0, h⟩ := Br.out h
    obtain ⟨h1, h⟩ := Br.out h
    have h0 := of_decide_eq_true h0
    have h1 := of_decide_eq_true h1
    have hj := VR.int_inv hyv
    generalize hxe : a.eval x = u' at hxv
    cases hxv with
    | slice _ _ _ _ b base cap2 c' hr hc =>
    refine ⟨_, .pointer (some ⟨b, off + j.toNat * i.size + base, none⟩), M, ρ, w, .inl ?_, h, .ptr _ _ _ _ _ hr, ρ.le_refl, hs⟩
    simp [execOp, ho, Instr.indexAt, hxe, hj, asIntOf, run_underlying hu, h0, h1, sizeOf, typeInfo, hi, addr_add]
  · exact h.elim

theorem does_idx {t e : TypeId} {n : Nat} {x y : Operand} (ho : o.op = .index t x y) {x' y' : VX} (hx : cx x = some x') (hy : cx y = some y') (hu : P.underlying t = some (.array n e)) {i : TypeInfo} (hi : P.info? e = some i)
    {agg : Bool} (ha : aggB P e = some agg) (h : ev P (.idx agg n i.size x' y') E M K) : Does P o E M K := by
  intro C nt ρ a w hs
  obtain ⟨u, hu', h1⟩ := xvOr_out h
  clear h
  obtain ⟨v, hv', h⟩ := xvOr_out h1
  clear h1
  have hxv := hs.opd hx hu'
  have hyv := hs.opd hy hv'
  have hag := aggB_run ha w
  split at h
  · rename_i cs kk j
    obtain ⟨h0, h⟩ := Br.out h
    obtain ⟨h1, h⟩ := Br.out h
    have h0 := of_decide_eq_true h0
    have h1 := of_decide_eq_true h1
    have hj := VR.int_inv hyv
    generalize hxe : a.eval x = u' at hxv
    cases hxv with
    | agg xs ys hR =>
    split at h
    · refine ⟨_, .agg ⟨(ys.drop (j.toNat * i.size)).take i.size⟩, M, ρ, w, .inl ?_, h, .agg _ _ ((hR.drop _).take _), ρ.le_refl, hs⟩
      have : (Array.mk ys).extract (j.toNat * i.size) (j.toNat * i.size + i.size) = ⟨(ys.drop (j.toNat * i.size)).take i.size⟩ := by apply Array.ext'; simp
      simp [execOp, ho, Instr.index, hxe, hj, asIntOf, run_underlying hu, h0, h1, sizeOf, typeInfo, hi, part, hag]
    · split at h
      · rename_i v hv
        obtain ⟨v', h2, h3⟩ := hR.get hv
        exact ⟨_, v', M, ρ, w, .inl (by simp [execOp, ho, Instr.index, hxe, hj, asIntOf, run_underlying hu, h0, h1, sizeOf, typeInfo, hi, part, hag, h2]), h, h3, ρ.le_refl, hs⟩
      · exact h.elim
  · exact h.elim

theorem does_ext {x : Operand} {i : Nat} (ho : o.op = .extract x i) {x' : VX} (hx : cx x = some x') (h : ev P (.ext i x') E M K) : Does P o E M K := by
  intro C nt ρ a w hs
  obtain ⟨u, hu', h⟩ := xvOr_out h
  have hxv := hs.opd hx hu'
  split at h
  · rename_i vs
    generalize hxe : a.eval x = u' at hxv
    cases hxv with
    | tuple xs ys hR =>
    split at h
    · rename_i v hv
      obtain ⟨v', h1, h2⟩ := hR.get hv
      exact ⟨_, v', M, ρ, w, .inl (by simp [execOp, ho, Instr.extract, hxe, h1]), h, h2, ρ.le_refl, hs⟩
    · exact h.elim
  · exact h.elim

end
end Vm
end Go.Proofs.YtcafmkekkcbamaaGreat
namespace Go.Proofs.YtcafmkekkcbamaaGreat
open Go.RowKit
namespace Vm

section
variable {P : Program} {o : Oper} {E : Env} {M : VMem} {K : Value → VMem → Prop}

theorem does_len {x : Operand} {t : TypeId} {c : Call} (ho : o.op = .call c) (h1 : c.callee = .builtin .len) (h2 : c.args = #[x]) (h3 : c.argTypes = #[t]) {x' : VX} (hx : cx x = some x') {e : TypeId} (hu : P.underlying t = some (.slice e))
    (h : ev P (.len x') E M K) : Does P o E M K := by
  intro C nt ρ a w hs
  obtain ⟨u, hu', h4⟩ := xvOr_out h
  clear h
  have hxv := hs.opd hx hu'
  split at h4
  · rename_i ad n cap
    have he : ∃ ad' c', a.eval x = .slice ad' n c' := by
      generalize hxe : a.eval x = u' at hxv
      cases hxv <;> exact ⟨_, _, rfl⟩
    obtain ⟨ad', c', he⟩ := he
    refine ⟨_, .int .i64 n, M, ρ, w, .inl ?_, h4, .int _ _, ρ.le_refl, hs⟩
    simp [execOp, ho, resolve, h1, h2, h3, he, invoke, builtin, Builtin.len_, run_underlying hu, goInt]
  · exact h4.elim

theorem does_slen {x : Operand} {t : TypeId} {c : Call} (ho : o.op = .call c) (h1 : c.callee = .builtin .len) (h2 : c.args = #[x]) (h3 : c.argTypes = #[t]) {x' : VX} (hx : cx x = some x') (hu : P.underlying t = some .string)
    (h : ev P (.slen x') E M K) : Does P o E M K := by
  intro C nt ρ a w hs
  obtain ⟨u, hu', h4⟩ := xvOr_out h
  clear h
  have hxv := hs.opd hx hu'
  split at h4
  · rename_i s
    have he := VR.str_inv hxv
    refine ⟨_, .int .i64 s.size, M, ρ, w, .inl ?_, h4, .int _ _, ρ.le_refl, hs⟩
    simp [execOp, ho, resolve, h1, h2, h3, he, invoke, builtin, Builtin.len_, run_underlying hu, goInt]
  · exact h4.elim

theorem does_mm {x y : Operand} {c : Call} {mx : Bool} (ho : o.op = .call c) (h1 : c.callee = .builtin (if mx then .max else .min)) (h2 : c.args = #[x, y]) {x' y' : VX} (hx : cx x = some x') (hy : cx y = some y')
    (h : ev P (.mm mx x' y') E M K) : Does P o E M K := by
  intro C nt ρ a w hs
  obtain ⟨u, hu', h4⟩ := xvOr_out h
  clear h
  obtain ⟨v, hv', h5⟩ := xvOr_out h4
  clear h4
  have hxv := hs.opd hx hu'
  have hyv := hs.opd hy hv'
  split at h5
  · rename_i k p k' q
    have e1 := VR.int_inv hxv
    have e2 := VR.int_inv hyv
    cases mx with
    | true =>
      refine ⟨_, .int k (if p < q then q else p), M, ρ, w, .inl ?_, h5, .int _ _, ρ.le_refl, hs⟩
      simp [execOp, ho, resolve, h1, h2, e1, e2, invoke, builtin, Builtin.max_, Builtin.max2]
    | false =>
      refine ⟨_, .int k (if q < p then q else p), M, ρ, w, .inl ?_, h5, .int _ _, ρ.le_refl, hs⟩
      simp [execOp, ho, resolve, h1, h2, e1, e2, invoke, builtin, Builtin.min_, Builtin.min2]
  · exact h5.elim

theorem vr_slice_new (ρ : Ren) (M : VMem) (hl : ρ.length = M.length) (b cap l c c' : Nat) (hc : c' = c ∨ (c' = cap ∧ c ≤ cap)) : VR (ρ ++ [some (b, 0, cap)]) (.slice (some ⟨M.length, 0, none⟩) l c) (.slice (some ⟨b, 0, none⟩) l c') := by
  have := VR.slice (ρ := ρ ++ [some (b, 0, cap)]) M.length 0 l c b 0 cap c' (at_new ρ M hl b cap) (by rcases hc with h | ⟨h1, h2⟩; exact .inl h; exact .inr ⟨by omega, fun _ => ⟨rfl, h1⟩⟩)
  simpa using this

theorem does_mks {t e : TypeId} {x y : Operand} (ho : o.op = .makeSlice t x y) {x' y' : VX} (hx : cx x = some x') (hy : cx y = some y') (hu : P.underlying t = some (.slice e)) {i : TypeInfo} {z : Value} (hi : P.info? e = some i) (hz : i.zero = some z)
    {zc : List Value} (hzc : zc = z.cells.toList) (hzk : zc.all scalarK = true) (hzs : zc.length = i.size) (hpos : 0 < i.size) (h : ev P (.mks e i.size i.bytes zc x' y') E M K) : Does P o E M K := by
  intro C nt ρ a w hs
  obtain ⟨u, hu', h4⟩ := xvOr_out h
  clear h
  obtain ⟨v, hv', h5⟩ := xvOr_out h4
  clear h4
  have hxv := hs.opd hx hu'
  have hyv := hs.opd hy hv'
  split at h5
  · rename_i k l k' c
    have e1 := VR.int_inv hxv
    have e2 := VR.int_inv hyv
    obtain ⟨g0, h5⟩ := Br.out h5
    obtain ⟨g1, h5⟩ := Br.out h5
    obtain ⟨g2, h5⟩ := Br.out h5
    obtain ⟨g3, h5⟩ := Br.out h5
    have g0 := of_decide_eq_true g0
    have g1 := of_decide_eq_true g1
    have g2 := of_decide_eq_true g2
    have g3 := of_decide_eq_true g3
    have hrun := run_make (P := P) w t e i z hu hi hz k k' l c g0 g1 (by omega) g3
    subst hzc
    refine ⟨_, .slice (some ⟨w.heap.size, 0, none⟩) l.toNat c.toNat, _, ρ ++ [some (w.heap.size, 0, c.toNat)], _, .inl (by simp only [execOp, ho, e1, e2, Sem.run_bind, hrun]; rfl), h5, vr_slice_new ρ M hs.sim.len _ _ _ _ _ (.inl rfl), Ren.le_append _ _, ?_⟩
    refine hs.alloc _ c.toNat ⟨rfl, _, heap_alloc_new w _, by rw [size_madeCells]; exact Nat.le_refl _, by rw [size_madeCells]; exact Nat.le_refl _, ?_⟩
    intro j hj
    have hzl : z.cells.size = i.size := by simpa using hzs
    have hmod : j % i.size < z.cells.size := by rw [hzl]; exact Nat.mod_lt _ hpos
    refine ⟨z.cells[j % i.size], ?_, ?_⟩
    · have : (madeCells z.cells (c.toNat * i.size))[j]? = some (z.cells[j % z.cells.size]!) := by simp [madeCells, hj]
      rw [this, hzl, getElem!_pos z.cells _ hmod]
    · have hR := VRs.scalars (ρ ++ [some (w.heap.size, 0, c.toNat)]) hzk
      have hg : z.cells.toList[j % i.size]? = some z.cells[j % i.size] := by simp [hmod]
      obtain ⟨v', h1, h2⟩ := hR.get hg
      rw [hg] at h1; cases h1
      have e : z.cells.toList.getD (j % i.size) undef = z.cells[j % i.size] := by rw [List.getD_eq_getElem?_getD, hg]; rfl
      show VR _ (z.cells.toList.getD (j % i.size) undef) _
      rw [e]; exact h2
  · exact h5.elim


theorem evBd_out {E : Env} {x : Option VX} {d top : Nat} {K : Nat → Prop} (h : evBd E x d top K) :
    (x = none ∧ K d) ∨ ∃ y k i, x = some y ∧ xv E y = some (.int k i) ∧ 0 ≤ i ∧ i ≤ (top : Int) ∧ K i.toNat := by
  unfold evBd at h
  split at h
  · exact .inl ⟨rfl, h⟩
  · rename_i y
    split at h
    · rename_i k i hv
      obtain ⟨h0, h⟩ := Br.out h
      obtain ⟨h1, h⟩ := Br.out h
      exact .inr ⟨y, k, i, rfl, hv, of_decide_eq_true h0, of_decide_eq_true h1, h⟩
    · exact h.elim

def cxo : Option Operand → Option (Option VX)
  | none => some none
  | some x => (cx x).map some

theorem bound_run {k : IntKind} {i : Int} {y : Nat} {code : BoundsCode} (h0 : 0 ≤ i) (h1 : i ≤ (y : Int)) (w : World) : (Instr.sliceBound (.int k i) y code).run P w = .ok i.toNat w := by
  simp [Instr.sliceBound, asIntOf, h0, h1]

theorem sliceBounds_eq (len cap : Nat) (X Y Z : Option Value) : Instr.sliceBounds true len cap Z Y X =
    ((match X with | some v => Instr.sliceBound v cap .slice3Acap | none => pure cap) >>= fun m =>
      (match Y, X with | some v, some _ => Instr.sliceBound v m .slice3B | some v, none => Instr.sliceBound v m .sliceAcap | none, none => pure len | none, some _ => stuck "Slice: max without high") >>= fun h =>
        (match Z with | some v => Instr.sliceBound v h (if X.isSome then .slice3C else .sliceB) | none => pure 0) >>= fun l => pure (l, h, m)) := by
  cases X <;> cases Y <;> cases Z <;> rfl

theorem does_sl {t e : TypeId} {x : Operand} {lw hg mx : Option Operand} (ho : o.op = .slice t x lw hg mx) {x' : VX} {lo' hi' mx' : Option VX} (hx : cx x = some x') (hlo : cxo lw = some lo') (hhi : cxo hg = some hi') (hmx : cxo mx = some mx')
    (hu : P.underlying t = some (.slice e)) {i : TypeInfo} (hinf : P.info? e = some i) (hpos : 0 < i.size) (h : ev P (.sl i.size x' lo' hi' mx') E M K) : Does P o E M K := by
  intro C nt ρ a w hs
  obtain ⟨u, hu', h4⟩ := xvOr_out h
  clear h
  have hxv := hs.opd hx hu'
  have opd' : ∀ {z : Option Operand} {z' : Option VX} {y : VX} {k : IntKind} {n : Int}, cxo z = some z' → z' = some y → xv E y = some (.int k n) → ∃ z0, z = some z0 ∧ a.eval z0 = .int k n := by
    intro z z' y k n h1 h2 h3
    subst h2
    cases z with
    | none => simp [cxo] at h1
    | some z0 =>
      simp [cxo] at h1
      exact ⟨z0, rfl, VR.int_inv (hs.opd h1 h3)⟩
  have none' : ∀ {z : Option Operand} {z' : Option VX}, cxo z = some z' → z' = none → z = none := by
    intro z z' h1 h2
    subst h2
    cases z with
    | none => rfl
    | some z0 => simp [cxo] at h1
  split at h4
  · rename_i ad len cap
    -- the value in the model
    have hval : ∃ ad' c', a.eval x = .slice ad' len c' ∧ cap ≤ c' := by
      generalize hxe : a.eval x = u' at hxv
      cases hxv with
      | snil => exact ⟨_, _, rfl, Nat.le_refl _⟩
      | slice _ _ _ _ _ _ _ _ _ hc => exact ⟨_, _, rfl, by rcases hc with rfl | ⟨h, _⟩; exact Nat.le_refl _; exact h⟩
      | slice0 => exact ⟨_, _, rfl, Nat.zero_le _⟩
    obtain ⟨ad', c', he, hcc⟩ := hval

    -- what is to be shown, once the bounds are known
    have fin : ∀ (m mr h l : Nat), (execOp a.eval o).run P w = .ok (.value (.slice (if mr = l then ad' else ad'.map (·.add (l * i.size))) (h - l) (mr - l))) w → m ≤ mr → (m = mr ∨ (m = cap ∧ mr = c')) → l ≤ h → h ≤ m → (lo' = none → l = 0) →
        evSl i.size lo' ad m h l (fun v => K v M) →
        ∃ v v' M' ρ' w', ((execOp a.eval o).run P w = .ok (.value v') w' ∨ ((execOp a.eval o).run P w = .ok .skip w' ∧ v' = Go.undef)) ∧ K v M' ∧ VR ρ' v v' ∧ ρ.le ρ' ∧ St C nt ρ' E M' a w' := by
      intro m mr h l hrun hmm hmc hlh hhm hl0 hk
      unfold evSl at hk
      cases ad with
      | none =>
        simp only at hk
        generalize hxe : a.eval x = u' at hxv
        rw [he] at hxe
        subst hxe
        cases hxv
        have e : m = mr := by rcases hmc with h | ⟨h, h'⟩; exact h; omega
        subst e
        refine ⟨_, _, M, ρ, w, .inl hrun, hk, ?_, ρ.le_refl, hs⟩
        have : (if m = l then (none : Option Addr) else none) = none := by split <;> rfl
        simp only [Option.map_none, this]
        exact .snil _ _
      | some q =>
        obtain ⟨k, off, sp⟩ := q
        cases sp with
        | some sp => exact hk.elim
        | none =>
        simp only at hk
        generalize hxe : a.eval x = u' at hxv
        rw [he] at hxe
        subst hxe
        cases hxv with
        | slice _ _ _ _ b base cp _ hr hc =>
        split at hk
        · -- from the beginning on
          have := hl0 rfl
          subst this
          refine ⟨_, _, M, ρ, w, .inl hrun, hk, ?_, ρ.le_refl, hs⟩
          have hadd : (if mr = 0 then (some ⟨b, off + base, none⟩ : Option Addr) else (some (⟨b, off + base, none⟩ : Addr)).map (·.add (0 * i.size))) = some ⟨b, off + base, none⟩ := by
            split
            · rfl
            · simp [addr_add]
          rw [hadd]
          simp only [Nat.sub_zero]
          refine .slice _ _ _ _ _ _ _ _ hr ?_
          rcases hmc with rfl | ⟨rfl, rfl⟩
          · exact .inl rfl
          · rcases hc with rfl | ⟨h1, h2⟩
            · exact .inl rfl
            · exact .inr ⟨hmm, h2⟩
        · cases hb : Nat.beq m l with
          | true =>
            rw [hb] at hk
            have e := Nat.eq_of_beq_eq_true hb
            refine ⟨_, _, M, ρ, w, .inl hrun, hk.ott, ?_, ρ.le_refl, hs⟩
            have hz : h - l = 0 := by omega
            rw [hz]
            split
            · exact .slice0 _ _ _ _ _ _ _ hr
            · simp only [Option.map_some, addr_add]
              exact .slice0 _ _ _ _ _ _ _ hr
          | false =>
            rw [hb] at hk
            have hne : m ≠ l := fun e => by subst e; rw [Nat.beq_refl] at hb; cases hb
            have hne' : mr ≠ l := by omega
            refine ⟨_, _, M, ρ, w, .inl hrun, hk.off, ?_, ρ.le_refl, hs⟩
            rw [if_neg hne']
            simp only [Option.map_some, addr_add]
            rw [Nat.add_right_comm]
            refine .slice _ _ _ _ _ _ _ _ hr ?_
            rcases hmc with rfl | ⟨rfl, rfl⟩
            · exact .inl rfl
            · rcases hc with rfl | ⟨h1, h2⟩
              · exact .inl rfl
              · refine .inr ⟨by omega, fun h0 => ?_⟩
                have h3 : off = 0 := by omega
                have h4 : l * i.size = 0 := by omega
                have h5 : l = 0 := by rcases Nat.mul_eq_zero.1 h4 with h | h; exact h; omega
                obtain ⟨h6, h7⟩ := h2 h3
                exact ⟨h6, by omega⟩
    -- the bounds, one by one
    have lows : ∀ (h : Nat) (K' : Nat → Prop), evBd E lo' 0 h K' → ∃ l, K' l ∧ l ≤ h ∧ (lo' = none → l = 0) ∧ ∀ code : BoundsCode, (match lw.map a.eval with | some v => Instr.sliceBound v h code | none => pure 0).run P w = .ok l w := by
      intro h K' hk
      rcases evBd_out hk with ⟨h1, h5⟩ | ⟨y, k, n, h1, h2, h3, h6, h5⟩
      · have := none' hlo h1
        subst this
        exact ⟨0, h5, Nat.zero_le _, fun _ => rfl, fun code => by simp⟩
      · obtain ⟨z0, rfl, hz⟩ := opd' hlo h1 h2
        refine ⟨n.toNat, h5, by omega, ?_, fun code => by simp only [Option.map_some, hz]; exact bound_run h3 h6 w⟩
        intro h'
        rw [h1] at h'
        cases h'
    have run : ∀ (mr h l : Nat), (match mx.map a.eval with | some v => Instr.sliceBound v c' .slice3Acap | none => pure c').run P w = .ok mr w →
        (match hg.map a.eval, mx.map a.eval with | some v, some _ => Instr.sliceBound v mr .slice3B | some v, none => Instr.sliceBound v mr .sliceAcap | none, none => pure len | none, some _ => stuck "Slice: max without high").run P w = .ok h w →
        (∀ code : BoundsCode, (match lw.map a.eval with | some v => Instr.sliceBound v h code | none => pure 0).run P w = .ok l w) →
        (execOp a.eval o).run P w = .ok (.value (.slice (if mr = l then ad' else ad'.map (·.add (l * i.size))) (h - l) (mr - l))) w := by
      intro mr h l r1 r2 r3
      have rb : (Instr.sliceBounds true len c' (lw.map a.eval) (hg.map a.eval) (mx.map a.eval)).run P w = .ok (l, h, mr) w := by
        have key : ∀ (X Y Z : Option Value), (match X with | some v => Instr.sliceBound v c' .slice3Acap | none => pure c').run P w = .ok mr w →
            (match Y, X with | some v, some _ => Instr.sliceBound v mr .slice3B | some v, none => Instr.sliceBound v mr .sliceAcap | none, none => pure len | none, some _ => stuck "Slice: max without high").run P w = .ok h w →
            (∀ code : BoundsCode, (match Z with | some v => Instr.sliceBound v h code | none => pure 0).run P w = .ok l w) → (Instr.sliceBounds true len c' Z Y X).run P w = .ok (l, h, mr) w := by
          intro X Y Z r1 r2 r3
          rw [sliceBounds_eq]
          have r3' : (match Z with | some v => Instr.sliceBound v h (if X.isSome = true then BoundsCode.slice3C else BoundsCode.sliceB) | none => pure 0).run P w = .ok l w := by
            cases Z with
            | none => exact r3 .sliceB
            | some v => exact r3 _
          simp only [Sem.run_bind, r1, r2, Result.andThen_ok]
          rw [r3']
          rfl
        exact key _ _ _ r1 r2 r3
      simp only [execOp, ho, Instr.sliceAt, Instr.slice, Sem.run_bind, run_underlying hu, Result.andThen_ok, he, rb, sizeOf, typeInfo, run_program, hinf]
      rfl
    rcases evBd_out h4 with ⟨h1, h5⟩ | ⟨y, k, n, h1, h2, h3, h6, h5⟩
    · have hmn := none' hmx h1
      subst hmn
      subst h1
      unfold evHi at h5
      cases hi' with
      | none =>
        simp only at h5
        obtain ⟨g0, g5⟩ := Br.out h5
        have g0 := Nat.le_of_ble_eq_true g0
        have hhn := none' hhi rfl
        subst hhn
        obtain ⟨l, k1, k2, k3, k4⟩ := lows _ _ g5
        exact fin cap c' len l (run c' len l (by simp) (by simp) k4) hcc (.inr ⟨rfl, rfl⟩) k2 g0 k3 k1
      | some z1 =>
      simp only at h5
      rcases evBd_out h5 with ⟨g1, g5⟩ | ⟨y, k, n, g1, g2, g3, g6, g5⟩
      · cases g1
      · obtain ⟨z0, rfl, hz⟩ := opd' hhi g1 g2
        obtain ⟨l, k1, k2, k3, k4⟩ := lows _ _ g5
        refine fin cap c' n.toNat l (run c' n.toNat l (by simp) ?_ k4) hcc (.inr ⟨rfl, rfl⟩) k2 (by omega) k3 k1
        simp only [Option.map_some, Option.map_none, hz]
        exact bound_run g3 (by omega) w
    · obtain ⟨z0, rfl, hz⟩ := opd' hmx h1 h2
      subst h1
      unfold evHi at h5
      cases hi' with
      | none => exact h5.elim
      | some z1 =>
      simp only at h5
      rcases evBd_out h5 with ⟨g1, g5⟩ | ⟨y, k, n2, g1, g2, g3, g6, g5⟩
      · cases g1
      · obtain ⟨z2, rfl, hz2⟩ := opd' hhi g1 g2
        obtain ⟨l, k1, k2, k3, k4⟩ := lows _ _ g5
        refine fin n.toNat n.toNat n2.toNat l (run n.toNat n2.toNat l ?_ ?_ k4) (Nat.le_refl _) (.inl rfl) k2 (by omega) k3 k1
        · simp only [Option.map_some, hz]
          exact bound_run h3 (by omega) w
        · simp only [Option.map_some, hz, hz2]
          exact bound_run g3 g6 w
  · exact h4.elim
end
end Vm
end Go.Proofs.YtcafmkekkcbamaaGreat
namespace Go.Proofs.YtcafmkekkcbamaaGreat
open Go.RowKit
namespace Vm

section
variable {P : Program} {o : Oper} {E : Env} {M : VMem} {K : Value → VMem → Prop}

/-- The cells that are appended, as the model has them. -/
def SrcR (ρ : Ren) (w : World) (sz m : Nat) (get : Nat → Value) (v' : Value) : Prop :=
  (∃ (ad : Addr) (c : Nat) (news : List Value), v' = .slice (some ad) m c ∧ news.length = m * sz ∧ (∀ j u, news[j]? = some u → w.cell? (ad.add j) = some u) ∧ (∀ u ∈ news, u.oneCell' = true) ∧ (∀ j, j < m * sz → ∃ u, news[j]? = some u ∧ VR ρ (get j) u)) ∨
  (m = 0 ∧ ∃ c, v' = .slice none 0 c)

theorem src_cells {ρ : Ren} {w : World} {b base cap off n : Nat} {p : VObj} {get : Nat → Value} (hp : ObjR ρ w b base cap p) (h : ∀ i, i < n → p.has (off + i) (get i)) (h1 : ∀ i, i < n → (get i).oneCell' = true) :
    ∃ news : List Value, news.length = n ∧ (∀ j u, news[j]? = some u → w.cell? ((⟨b, off + base, none⟩ : Addr).add j) = some u) ∧ (∀ u ∈ news, u.oneCell' = true) ∧ (∀ j, j < n → ∃ u, news[j]? = some u ∧ VR ρ (get j) u) := by
  have hl : ((List.range n).map get).length = n := by simp
  obtain ⟨l', h2, h3, h4⟩ := cells_read (off := off) hp n ((List.range n).map get) hl (fun i v hv => by
    have hi : i < n := by
      have := lt_of_get hv
      simpa using this
    simp [hi] at hv
    subst hv
    exact h i hi)
  refine ⟨l', h3, fun j u hu => by rw [addr_add]; exact h4 j u hu, ?_, ?_⟩
  · intro u hu
    obtain ⟨j, hj, rfl⟩ := List.getElem_of_mem hu
    have hj2 : j < n := by omega
    obtain ⟨v', h5, h6⟩ := h2.get (i := j) (v := get j) (by simp [hj2])
    rw [List.getElem?_eq_getElem hj] at h5
    cases h5
    rw [h6.oneCell]
    exact h1 j hj2
  · intro j hj
    obtain ⟨v', h5, h6⟩ := h2.get (i := j) (v := get j) (by simp [hj])
    exact ⟨v', h5, h6⟩

theorem src_out {sz : Nat} {v v' : Value} {K' : Nat → (Nat → Value) → Prop} (h : evSrc M sz v K') {ρ : Ren} {w : World} (hs : Sim ρ M w) (hv : VR ρ v v') : ∃ m get, K' m get ∧ SrcR ρ w sz m get v' := by
  unfold evSrc at h
  split at h
  · rename_i l c
    split at h
    · cases hv
      exact ⟨0, nilG, h, .inr ⟨rfl, c, rfl⟩⟩
    · exact h.elim
  · rename_i k o l c
    generalize hve : Value.slice _ _ _ = v0 at hv
    cases hv <;> cases hve
    refine ⟨0, nilG, h, .inl ⟨_, _, [], rfl, by simp, fun j u hu => by simp at hu, fun u hu => by simp at hu, fun j hj => by simp at hj⟩⟩
  · rename_i k o l c
    cases hv with
    | slice _ _ _ _ b base cap c' hr hc =>
    split at h
    · rename_i cs T hM
      split at h
      · rename_i r hr2
        split at h
        · rename_i h1
          obtain ⟨e1, e2⟩ := takeO_some hr2
          have hone := allOne_out h1
          obtain ⟨news, g1, g2, g3, g4⟩ := src_cells (off := o) (n := l * sz) (get := fun i => r.getD i undef) (hs.get hM rfl hr) (fun i hi => by
            show cs[o + i]? = some (r.getD i undef)
            have hir : i < r.length := by omega
            have hg : r[i]? = cs[o + i]? := by rw [e1, List.getElem?_take_of_lt hi, List.getElem?_drop]
            rw [← hg, List.getD_eq_getElem?_getD, List.getElem?_eq_getElem hir]; rfl) (fun i hi => by
            have hir : i < r.length := by omega
            rw [List.getD_eq_getElem?_getD, List.getElem?_eq_getElem hir]
            exact hone _ (List.getElem_mem hir))
          exact ⟨l, _, h, .inl ⟨_, _, news, rfl, g1, g2, g3, g4⟩⟩
        · exact h.elim
      · exact h.elim
    · rename_i sz' m get T hM
      obtain ⟨hb, h⟩ := Br.out h
      have hb := of_decide_eq_true hb
      obtain ⟨h1, h⟩ := h
      obtain ⟨news, g1, g2, g3, g4⟩ := src_cells (off := o) (n := l * sz) (get := fun i => get (o + i)) (hs.get hM rfl hr) (fun i hi => ⟨by omega, rfl⟩) h1
      exact ⟨l, _, h, .inl ⟨_, _, news, rfl, g1, g2, g3, g4⟩⟩
    · rename_i m get hM
      obtain ⟨hb, h⟩ := Br.out h
      have hb := of_decide_eq_true hb
      obtain ⟨h1, h⟩ := h
      obtain ⟨news, g1, g2, g3, g4⟩ := src_cells (off := o) (n := l * sz) (get := fun i => get (o + i)) (hs.get hM rfl hr) (fun i hi => ⟨by omega, rfl⟩) h1
      exact ⟨l, _, h, .inl ⟨_, _, news, rfl, g1, g2, g3, g4⟩⟩
    · exact h.elim
  · exact h.elim

/-- One object falls away. -/
theorem St.drop {C : Ctx} {nt : Nat} {ρ : Ren} {a : Act} {w : World} (h : St C nt ρ E M a w) {k b base cap : Nat} {p : VObj} (hk : M[k]? = some p) (hp : p.owned = true) (hr : ρ.at k b base cap) :
    St C nt ρ E (M.set k .gone) a w ∧ (∀ j q x y z, (M.set k .gone)[j]? = some q → q.seen = true → ρ.at j x y z → x ≠ b) ∧ (C.W b ∨ C.w0.heap.size ≤ b) := by
  refine ⟨h.set hk hp hr (Kept.refl _ _) (fun _ _ => rfl) trivial (.inr rfl), ?_, h.own b ⟨k, p, base, cap, hk, hp, hr⟩⟩
  intro j q x y z hj hq hrj
  by_cases hjk : k = j
  · subst hjk
    rw [List.getElem?_set_self (lt_of_get hk)] at hj
    cases hj
    cases hq
  · rw [List.getElem?_set_ne hjk] at hj
    exact Ne.symm (h.sim.apart k j p q _ _ _ _ _ _ hjk hk hj hp hq hr hrj)

/-- A block that is turned, and is nobody's, becomes an object. -/
theorem St.take {C : Ctx} {nt : Nat} {ρ : Ren} {a : Act} {w w' : World} (h : St C nt ρ E M a w) {g cap : Nat} {p : VObj} (hfree : ∀ j q x y z, M[j]? = some q → q.seen = true → ρ.at j x y z → x ≠ g)
    (hW : C.W g ∨ C.w0.heap.size ≤ g) (hd : w.heap[g]? ≠ some (.deferred (some []))) (hk : Kept (fun x => x = g) w w') (hp : ObjR (ρ ++ [some (g, 0, cap)]) w' g 0 cap p) : St C nt (ρ ++ [some (g, 0, cap)]) E (M ++ [p]) a w' := by
  refine ⟨h.sim.add (fun k q b x y hk2 hq hr => ?_) hp, h.env.mono (Ren.le_append _ _), h.size, h.defs_of rfl (fun x hx => by rw [hk.block x (heap_lt hx) (fun e => hd (e ▸ hx))]; exact hx), Ren.le_trans h.le (Ren.le_append _ _), h.kept.trans hk (fun x hx => by subst hx; exact hW), ?_⟩
  · have hne := hfree k q b x y hk2 hq hr
    exact ⟨hk.block b ((h.sim.get hk2 hq hr).lt hq) hne, hne⟩
  · rintro x ⟨k, q, y, z, hk2, hq, hr⟩
    rcases Nat.lt_or_ge k M.length with hkl | hkl
    · rw [List.getElem?_append_left hkl] at hk2
      exact h.own x ⟨k, q, y, z, hk2, hq, (Ren.at_append (h.sim.len ▸ hkl)).1 hr⟩
    · have : k = M.length := by
        rcases Nat.lt_or_ge k (M.length + 1) with h' | h'
        · omega
        · rw [List.getElem?_eq_none (by simp; omega)] at hk2; cases hk2
      subst this
      unfold Ren.at at hr
      rw [← h.sim.len] at hr
      simp at hr
      exact hr.1 ▸ hW

theorem firstCells_zero (P : Program) (w : World) (size : Nat) (v : Value) (hv : (∃ ad c, v = .slice (some ad) 0 c) ∨ ∃ c, v = .slice none 0 c) : (Builtin.firstCells size 0 v).run P w = .ok #[] w := by
  rcases hv with ⟨ad, c, rfl⟩ | ⟨c, rfl⟩
  · simp [Builtin.firstCells, loadCells, loadCellsFrom]
  · rfl

theorem kept_setRow (w : World) (g : Nat) (c : Array Value) : Kept (fun x => x = g) w (w.setRow g c) :=
  ⟨rfl, rfl, rfl, by simp [World.setRow], fun b _ hn => setRow_other w g b c hn⟩

/-- The appended cells, over the elder ones. -/
theorem app_get {ρ : Ren} {olds news rest : List Value} {n m : Nat} {get get' : Nat → Value} (hl : olds.length = n) (hm : news.length = m) (ho : ∀ j, j < n → ∃ u, olds[j]? = some u ∧ VR ρ (get j) u) (hn : ∀ j, j < m → ∃ u, news[j]? = some u ∧ VR ρ (get' j) u) :
    ∀ i, i < n + m → ∃ v, (olds ++ news ++ rest)[i]? = some v ∧ VR ρ (appG n get get' i) v := by
  intro i hi
  unfold appG
  by_cases h : i < n
  · obtain ⟨u, h1, h2⟩ := ho i h
    have hb : Nat.blt i n = true := by simpa using h
    rw [hb]
    refine ⟨u, ?_, h2⟩
    rw [List.append_assoc, List.getElem?_append_left (by omega)]
    exact h1
  · obtain ⟨u, h1, h2⟩ := hn (i - n) (by omega)
    have hb : Nat.blt i n = false := by
      cases hb : Nat.blt i n with
      | false => rfl
      | true => exact absurd (by simpa using hb) h
    rw [hb]
    refine ⟨u, ?_, h2⟩
    rw [List.append_assoc, List.getElem?_append_right (by omega), hl, List.getElem?_append_left (by omega)]
    exact h1

theorem does_app {t e : TypeId} {x y : Operand} {c : Call} (ho : o.op = .call c) (h1 : c.callee = .builtin .append) (h2 : c.args = #[x, y]) (h3 : c.argTypes = #[t, t]) {x' y' : VX} (hx : cx x = some x') (hy : cx y = some y')
    (hu : P.underlying t = some (.slice e)) {i : TypeInfo} {z : Value} (hi : P.info? e = some i) (hz : i.zero = some z) (hzs : z.cells.size = i.size) (hpos : 0 < i.size) (hby : 0 < i.bytes)
    (h : ev P (.app e i.size i.bytes x' y') E M K) : Does P o E M K := by
  intro C nt ρ a w hs
  obtain ⟨u, hu', h4⟩ := xvOr_out h
  clear h
  obtain ⟨v, hv', h5⟩ := xvOr_out h4
  clear h4
  have hxv := hs.opd hx hu'
  have hyv := hs.opd hy hv'
  obtain ⟨m, get, hk, hsrc⟩ := src_out h5 hs.sim hyv
  clear h5
  -- the operation is the builtin's run
  have hop : ∀ (r : Value) (w' : World), (Builtin.append_ #[t, t] o.type #[a.eval x, a.eval y]).run P w = .ok r w' → (execOp a.eval o).run P w = .ok (.value r) w' := by
    intro r w' hr
    simp [execOp, ho, resolve, h1, h2, h3, invoke, builtin, hr]
  have hmax : ∀ n, n * i.bytes ≤ 140737488355328 → n ≤ maxLen := by
    intro n hn
    have : n ≤ n * i.bytes := Nat.le_mul_of_pos_right n hby
    simp only [maxLen]; omega
  unfold evApp at hk
  split at hk
  · -- nil
    have ex : a.eval x = .slice none 0 0 := by
      generalize a.eval x = u' at hxv
      cases hxv; rfl
    split at hk
    · refine ⟨_, .slice none 0 0, M, ρ, w, .inl (hop _ _ ?_), hk, .snil 0 0, ρ.le_refl, hs⟩
      have hfc := firstCells_zero P w i.size (a.eval y) (by
        rcases hsrc with ⟨ad, c', news, e1, _⟩ | ⟨_, c', e1⟩
        · exact .inl ⟨ad, c', e1⟩
        · exact .inr ⟨c', e1⟩)
      have hlen : Builtin.lenOf (a.eval y) = pure 0 := by
        rcases hsrc with ⟨ad, c', news, e1, _⟩ | ⟨_, c', e1⟩ <;> rw [e1] <;> rfl
      rw [ex]
      simp [Builtin.append_, run_underlying hu, sizeOf, typeInfo, hi, hlen, hfc]
    · rename_i m
      obtain ⟨hb, hk⟩ := Br.out hk
      have hb := of_decide_eq_true hb
      rcases hsrc with ⟨ad, c', news, e1, e2, e3, e4, e5⟩ | ⟨h0, _⟩
      · have hrun := run_append_nil (P := P) w t o.type e i z hu hi hz ad (m + 1) c' news e2 e3 (by omega) (by have := hmax _ hb; simp only [maxLen] at this; omega) (by omega)
        have hge := grownCap_ge w (m + 1) 0 e
        have hle := grownCap_le_maxLen w (m + 1) 0 e (hmax _ hb)
        have hd := hs.drew
        refine ⟨_, _, _, ρ ++ [some (w.heap.size, 0, grownCap w (m + 1) 0 e)], _, .inl (hop _ _ (by rw [ex, e1]; exact hrun)), hk, vr_slice_new ρ M hs.sim.len _ _ _ _ _ (.inr ⟨rfl, hge⟩), Ren.le_append _ _, ?_⟩
        refine hd.alloc _ (grownCap w (m + 1) 0 e) ⟨rfl, _, heap_alloc_new w.drew _, ?_, ?_, ?_⟩
        · simp only [Array.size_append, List.size_toArray, size_zeroCells, hzs, e2, ← Nat.add_mul]
          exact Nat.mul_le_mul_right _ (by omega)
        · simp only [Array.size_append, List.size_toArray, e2, Nat.succ_eq_add_one]; omega
        · intro j hj
          obtain ⟨v, g1, g2⟩ := e5 j hj
          refine ⟨v, ?_, g2.mono (Ren.le_append _ _)⟩
          rw [Nat.add_zero, Array.getElem?_append_left (by have := lt_of_get g1; simpa using this)]
          simpa using g1
      · omega
  · -- a block of this proof's
    rename_i k len cap
    have hxe : ∃ b base cp c', ρ.at k b base cp ∧ a.eval x = .slice (some ⟨b, 0 + base, none⟩) len c' ∧ (c' = cap ∨ (cap ≤ c' ∧ base = 0 ∧ c' = cp)) := by
      generalize a.eval x = u' at hxv
      cases hxv with
      | slice _ _ _ _ b base cp c' hr hc => exact ⟨b, base, cp, c', hr, rfl, by rcases hc with h | ⟨h, h'⟩; exact .inl h; exact .inr ⟨h, h' rfl⟩⟩
    obtain ⟨b, base, cp, c', hr, ex, hc⟩ := hxe
    -- the common part
    have main : ∀ (p : VObj) (cur : Array Value) (gt : Nat → Value), M[k]? = some p → p.owned = true → base = 0 → w.heap[b]? = some (.cells cur e (0, 0)) → c' * i.size ≤ cur.size → len ≤ cap → cap ≤ c' →
        (∀ j, j < len * i.size → ∃ v, cur[j]? = some v ∧ VR ρ (gt j) v) → (len + m) * i.bytes ≤ 140737488355328 →
        K (.slice (some ⟨M.length, 0, none⟩) (len + m) (len + m)) (setL M k .gone ++ [.arr i.size ((len + m) * i.size) (appG (len * i.size) gt get) e]) →
        ∃ v v' M' ρ' w', ((execOp a.eval o).run P w = .ok (.value v') w' ∨ ((execOp a.eval o).run P w = .ok .skip w' ∧ v' = Go.undef)) ∧ K v M' ∧ VR ρ' v v' ∧ ρ.le ρ' ∧ St C nt ρ' E M' a w' := by
      intro p cur gt hM hp hb0 hg hsz hlc hcc hget hbytes hK
      subst hb0
      rw [setL_eq] at hK
      obtain ⟨hsd, hfree, hW⟩ := hs.drop hM hp hr
      have hlenM : (M.set k VObj.gone).length = M.length := by simp
      have hls : len * i.size ≤ c' * i.size := Nat.mul_le_mul_right _ (by omega)
      have holds : (cur.toList.take (len * i.size)).length = len * i.size := by simp; omega
      have hget' : ∀ j, j < len * i.size → ∃ u, (cur.toList.take (len * i.size))[j]? = some u ∧ VR ρ (gt j) u := by
        intro j hj
        obtain ⟨u, g1, g2⟩ := hget j hj
        exact ⟨u, by rw [List.getElem?_take_of_lt hj]; simpa using g1, g2⟩
      have hexp : ((len + m) * i.size) = len * i.size + m * i.size := Nat.add_mul _ _ _
      by_cases hroom : len + m ≤ c'
      · -- in place
        have hms : (len + m) * i.size ≤ c' * i.size := Nat.mul_le_mul_right _ hroom
        rcases hsrc with ⟨ad, c2, news, e1, e2, e3, e4, e5⟩ | ⟨h0, c2, e1⟩
        · have hrun := run_append_room (P := P) w t o.type e i hu hi b len c' cur hg ad m c2 news e2 e3 e4 hroom (by omega)
          refine ⟨_, _, _, ρ ++ [some (b, 0, c')], _, .inl (hop _ _ (by rw [ex, e1]; simpa using hrun)), hK, ?_, Ren.le_append _ _, ?_⟩
          · have := vr_slice_new ρ M hs.sim.len b c' (len + m) (len + m) c' (.inr ⟨rfl, hroom⟩)
            exact this
          · refine hsd.take hfree hW (by rw [hg]; intro e; cases e) (kept_setRow w b _) ⟨rfl, _, setRow_heap w b cur _ e _ hg, ?_, ?_, ?_⟩
            · simp only [List.size_toArray, List.length_append, List.length_take, List.length_drop, Array.length_toList]; omega
            · simp only [List.size_toArray, List.length_append, List.length_take, List.length_drop, Array.length_toList]; omega
            · intro j hj
              obtain ⟨v, g1, g2⟩ := app_get (rest := cur.toList.drop (len * i.size + news.length)) holds e2 hget' e5 j (by omega)
              exact ⟨v, by simpa using g1, g2.mono (Ren.le_append _ _)⟩
        · subst h0
          have hfc := firstCells_zero P w i.size (a.eval y) (.inr ⟨c2, e1⟩)
          have hlen : Builtin.lenOf (a.eval y) = pure 0 := by rw [e1]; rfl
          have hrun : (Builtin.append_ #[t, t] o.type #[a.eval x, a.eval y]).run P w = .ok (.slice (some ⟨b, 0 + 0, none⟩) len c') w := by
            rw [ex]
            simp [Builtin.append_, run_underlying hu, sizeOf, typeInfo, hi, hlen, hfc, show len ≤ c' by omega, storeCells]
          refine ⟨_, _, _, ρ ++ [some (b, 0, c')], _, .inl (hop _ _ hrun), hK, ?_, Ren.le_append _ _, ?_⟩
          · have := vr_slice_new ρ M hs.sim.len b c' (len + 0) (len + 0) c' (.inr ⟨rfl, hroom⟩)
            exact this
          · refine hsd.take hfree hW (by rw [hg]; intro e; cases e) (Kept.refl _ _) ⟨rfl, cur, hg, hsz, by omega, ?_⟩
            intro j hj
            have hj' : j < len * i.size := by simpa using hj
            obtain ⟨u, g1, g2⟩ := hget j hj'
            refine ⟨u, by simpa using g1, ?_⟩
            unfold appG
            have hb : Nat.blt j (len * i.size) = true := by simpa using hj'
            rw [hb]
            exact g2.mono (Ren.le_append _ _)
      · -- in a new block
        rcases hsrc with ⟨ad, c2, news, e1, e2, e3, e4, e5⟩ | ⟨h0, c2, e1⟩
        · have hrun := run_append_grow (P := P) w t o.type e i z hu hi hz ⟨b, 0, none⟩ len c' (cur.toList.take (len * i.size)) holds (fun j v hj => by
              have hjl : j < len * i.size := by have := lt_of_get hj; omega
              rw [List.getElem?_take_of_lt hjl] at hj
              rw [addr_add, cell?_of_heap hg]
              simpa using hj) ad m c2 news e2 e3 (by omega) (by have := hmax _ hbytes; simp only [maxLen] at this; omega) (growslice_fits (by omega) hbytes)
          have hge := grownCap_ge w (len + m) c' e
          have hle := grownCap_le_maxLen w (len + m) c' e (hmax _ hbytes)
          have hd := hsd.drew
          refine ⟨_, _, _, ρ ++ [some (w.heap.size, 0, grownCap w (len + m) c' e)], _, .inl (hop _ _ (by rw [ex, e1]; simpa using hrun)), hK, vr_slice_new ρ M hs.sim.len _ _ _ _ _ (.inr ⟨rfl, hge⟩), Ren.le_append _ _, ?_⟩
          refine hd.alloc _ (grownCap w (len + m) c' e) ⟨rfl, _, heap_alloc_new w.drew _, ?_, ?_, ?_⟩
          · have e6 : (cur.toList.take (len * i.size) ++ news).length = (len + m) * i.size := by rw [List.length_append, holds, e2, Nat.add_mul]
            simp only [Array.size_append, List.append_toArray, List.size_toArray, size_zeroCells, hzs, e6, ← Nat.add_mul]
            exact Nat.mul_le_mul_right _ (by omega)
          · have e6 : (cur.toList.take (len * i.size) ++ news).length = (len + m) * i.size := by rw [List.length_append, holds, e2, Nat.add_mul]
            simp only [Array.size_append, List.append_toArray, List.size_toArray, e6]; omega
          · intro j hj
            obtain ⟨v, g1, g2⟩ := app_get (rest := (Builtin.zeroCells z.cells (grownCap w (len + m) c' e - (len + m))).toList) holds e2 hget' e5 j (by omega)
            refine ⟨v, ?_, g2.mono (Ren.le_append _ _)⟩
            show (_ : Array Value)[j + 0]? = _
            rw [Nat.add_zero, ← Array.getElem?_toList]
            simpa using g1
        · omega
    split at hk
    · rename_i cs T' hM
      split at hk
      · rename_i q1 q2 q3
        have q1 := Nat.eq_of_beq_eq_true q1
        have q2 := Nat.le_of_ble_eq_true q2
        have q3 := Nat.le_of_ble_eq_true q3
        subst q1
        obtain ⟨hb, hk⟩ := Br.out hk
        have hb := of_decide_eq_true hb
        obtain ⟨h0, hcp, ds, hd, hg⟩ := hs.sim.get hM rfl hr
        have hds := hd.length
        have hec : c' = cap := by
          rcases hc with h | ⟨h, h', h''⟩
          · exact h
          · omega
        subst hec
        have hlc : len * i.size ≤ c' * i.size := Nat.mul_le_mul_right _ q3
        refine main _ ⟨ds⟩ (fun j => cs.getD j undef) hM rfl h0 hg (by simp; omega) q3 (Nat.le_refl _) (fun j hj => ?_) hb hk
        · have hj2 : j < cs.length := by omega
          obtain ⟨v', k1, k2⟩ := hd.get (List.getElem?_eq_getElem hj2)
          refine ⟨v', by simpa using k1, ?_⟩
          rw [List.getD_eq_getElem?_getD, List.getElem?_eq_getElem hj2]
          exact k2
      · exact hk.elim
    · rename_i sz' n gt T' hM
      split at hk
      · rename_i q1 q2
        have q1 := Nat.eq_of_beq_eq_true q1
        have q2 := Nat.eq_of_beq_eq_true q2
        subst q1
        subst q2
        obtain ⟨g1, hk⟩ := Br.out hk
        obtain ⟨g2, hk⟩ := Br.out hk
        obtain ⟨g3, hk⟩ := Br.out hk
        have g1 := of_decide_eq_true g1
        have g2 := of_decide_eq_true g2
        have g3 := of_decide_eq_true g3
        obtain ⟨h0, cur, hg, hsz, hn, hgt⟩ := hs.sim.get hM rfl hr
        have hlc : len * i.size ≤ cap * i.size := Nat.mul_le_mul_right _ g2
        refine main _ cur gt hM rfl h0 hg ?_ g2 ?_ (fun j hj => ?_) g3 hk
        · rcases hc with rfl | ⟨k1, k2, rfl⟩
          · omega
          · exact hsz
        · rcases hc with rfl | ⟨k1, k2, rfl⟩
          · exact Nat.le_refl _
          · exact k1
        · obtain ⟨v, k1, k2⟩ := hgt j (by omega)
          exact ⟨v, by simpa using k1, k2⟩
      · exact hk.elim
    · exact hk.elim
  · exact hk.elim

theorem does_clr {t e : TypeId} {x : Operand} {c : Call} (ho : o.op = .call c) (h1 : c.callee = .builtin .clear) (h2 : c.args = #[x]) (h3 : c.argTypes = #[t]) {x' : VX} (hx : cx x = some x')
    (hu : P.underlying t = some (.slice e)) {i : TypeInfo} {z : Value} (hi : P.info? e = some i) (hz : i.zero = some z) {zc : List Value} (hzc : zc = z.cells.toList) (hzk : zc.all scalarK = true) (hzs : zc.length = i.size) (hpos : 0 < i.size)
    (h : ev P (.clr i.size zc x') E M K) : Does P o E M K := by
  intro C nt ρ a w hs
  obtain ⟨u, hu', h4⟩ := xvOr_out h
  clear h
  have hxv := hs.opd hx hu'
  have hop : ∀ (r : Value) (w' : World), (Builtin.clear_ #[t] o.type #[a.eval x]).run P w = .ok r w' → (execOp a.eval o).run P w = .ok (.value r) w' := by
    intro r w' hr
    simp [execOp, ho, resolve, h1, h2, h3, invoke, builtin, hr]
  have hzl : z.cells.size = i.size := by rw [← hzs, hzc]; simp
  split at h4
  · rename_i n cp
    have ex : ∃ n' c', a.eval x = .slice none n' c' := by
      generalize a.eval x = u' at hxv
      cases hxv; exact ⟨_, _, rfl⟩
    obtain ⟨n', c', ex⟩ := ex
    refine ⟨_, .tuple #[], M, ρ, w, .inl (hop _ _ ?_), h4, .tuple [] [] .nil, ρ.le_refl, hs⟩
    rw [ex]
    simp [Builtin.clear_, run_underlying hu]
  · rename_i k off n cp
    split at h4
    · rename_i sz' m get T hM
      obtain ⟨hb, hk⟩ := Br.out h4
      have hb := of_decide_eq_true hb
      have hxe : ∃ b base cp' c', ρ.at k b base cp' ∧ a.eval x = .slice (some ⟨b, off + base, none⟩) n c' := by
        generalize a.eval x = u' at hxv
        cases hxv with
        | slice _ _ _ _ b base cp' c' hr hc => exact ⟨b, base, cp', c', hr, rfl⟩
      obtain ⟨b, base, cp', c', hr, ex⟩ := hxe
      obtain ⟨h0, cur, hg, hsz, hn, hgt⟩ := hs.sim.get hM rfl hr
      subst h0
      rw [setL_eq] at hk
      have hzc2 : (Builtin.zeroCells z.cells n).toList.length = n * i.size := by simp [Builtin.zeroCells, hzl]
      have hzg : ∀ j, j < n * i.size → (Builtin.zeroCells z.cells n).toList[j]? = some (z.cells[j % i.size]!) := by
        intro j hj
        simp [Builtin.zeroCells, hzl, hj]
      have hone : ∀ v ∈ (Builtin.zeroCells z.cells n).toList, v.oneCell' = true := by
        intro v hv
        obtain ⟨j, hj, rfl⟩ := List.getElem_of_mem hv
        have hj2 : j < n * i.size := by rw [← hzc2]; exact hj
        have e1 := hzg j hj2
        rw [List.getElem?_eq_getElem hj] at e1
        have e2 := Option.some.inj e1
        have hmod : j % i.size < z.cells.size := by rw [hzl]; exact Nat.mod_lt _ hpos
        have hmem : z.cells[j % i.size]! ∈ zc := by rw [hzc, getElem!_pos z.cells _ hmod]; simp
        have hvv := List.all_eq_true.1 hzk _ hmem
        rw [e2]
        generalize z.cells[j % i.size]! = vv at hvv
        cases vv <;> first | rfl | (simp [scalarK] at hvv)
      by_cases hn0 : n = 0
      · subst hn0
        refine ⟨_, .tuple #[], _, ρ, w, .inl (hop _ _ ?_), hk, .tuple [] [] .nil, ρ.le_refl, ?_⟩
        · rw [ex]; simp [Builtin.clear_, run_underlying hu]
        · refine hs.set hM rfl hr (Kept.refl _ _) (fun _ _ => rfl) ⟨rfl, cur, hg, hsz, hn, ?_⟩ (.inl rfl)
          intro j hj
          obtain ⟨v, k1, k2⟩ := hgt j hj
          refine ⟨v, k1, ?_⟩
          unfold clrG
          have : (Nat.ble off j && Nat.blt j (off + 0 * i.size)) = false := by
            cases hq : (Nat.ble off j && Nat.blt j (off + 0 * i.size)) with
            | false => rfl
            | true => simp at hq; omega
          rw [this]; exact k2
      · have hst := run_storeCells_at P b off T (Builtin.zeroCells z.cells n).toList 0 cur w hg (by omega) hone
        simp only [Nat.add_zero] at hst ex
        refine ⟨_, .tuple #[], _, ρ, w.setRow b (cur.toList.take off ++ (Builtin.zeroCells z.cells n).toList ++ cur.toList.drop (off + (Builtin.zeroCells z.cells n).toList.length)).toArray, .inl (hop _ _ ?_), hk, .tuple [] [] .nil, ρ.le_refl, ?_⟩
        · rw [ex]
          have : (Builtin.clear_ #[t] o.type #[.slice (some ⟨b, off, none⟩) n c']).run P w = ((storeCells ⟨b, off, none⟩ (Builtin.zeroCells z.cells n).toList).run P w).andThen fun _ w => .ok (.tuple #[]) w := by
            cases n with
            | zero => exact absurd rfl hn0
            | succ n => simp only [Builtin.clear_, Sem.run_bind, run_underlying hu, Result.andThen_ok, zero_run hi hz]; simp [run_underlying hu, zero_run hi hz]
          rw [this, hst]
          rfl
        · have hkept := kept_setRow w b (cur.toList.take off ++ (Builtin.zeroCells z.cells n).toList ++ cur.toList.drop (off + (Builtin.zeroCells z.cells n).toList.length)).toArray
          refine hs.set hM rfl hr hkept (fun x hx => setRow_other w b x _ hx) ⟨rfl, _, setRow_heap w b cur _ T _ hg, ?_, ?_, ?_⟩ (.inl rfl)
          · simp only [List.size_toArray, List.length_append, List.length_take, List.length_drop, Array.length_toList]; omega
          · simp only [List.size_toArray, List.length_append, List.length_take, List.length_drop, Array.length_toList]; omega
          · intro j hj
            unfold clrG
            by_cases hin : off ≤ j ∧ j < off + n * i.size
            · have hq : (Nat.ble off j && Nat.blt j (off + n * i.size)) = true := by simp; omega
              rw [hq]
              have hmod : (j - off) % i.size < z.cells.size := by rw [hzl]; exact Nat.mod_lt _ hpos
              refine ⟨z.cells[(j - off) % i.size], ?_, ?_⟩
              · have e1 := hzg (j - off) (by omega)
                rw [getElem!_pos z.cells _ hmod] at e1
                rw [← Array.getElem?_toList]
                show (cur.toList.take off ++ (Builtin.zeroCells z.cells n).toList ++ cur.toList.drop (off + (Builtin.zeroCells z.cells n).toList.length))[j]? = _
                have hto : (cur.toList.take off).length = off := by simp; omega
                rw [List.append_assoc, List.getElem?_append_right (by omega), hto, List.getElem?_append_left (by omega)]
                exact e1
              · have hR := VRs.scalars ρ hzk
                have hg2 : zc[(j - off) % i.size]? = some z.cells[(j - off) % i.size] := by rw [hzc]; simp [hmod]
                obtain ⟨v', k1, k2⟩ := hR.get hg2
                rw [hg2] at k1; cases k1
                have e : zc.getD ((j - off) % i.size) undef = z.cells[(j - off) % i.size] := by rw [List.getD_eq_getElem?_getD, hg2]; rfl
                show VR _ (zc.getD ((j - off) % i.size) undef) _
                rw [e]; exact k2
            · have hq : (Nat.ble off j && Nat.blt j (off + n * i.size)) = false := by
                cases hq : (Nat.ble off j && Nat.blt j (off + n * i.size)) with
                | false => rfl
                | true => simp at hq; omega
              rw [hq]
              obtain ⟨v, k1, k2⟩ := hgt j hj
              refine ⟨v, ?_, k2⟩
              rw [← Array.getElem?_toList]
              show (cur.toList.take off ++ (Builtin.zeroCells z.cells n).toList ++ cur.toList.drop (off + (Builtin.zeroCells z.cells n).toList.length))[j]? = _
              have hto : (cur.toList.take off).length = off := by simp; omega
              rw [← Array.getElem?_toList] at k1
              by_cases hlo : j < off
              · rw [List.append_assoc, List.getElem?_append_left (by omega), List.getElem?_take_of_lt hlo]
                exact k1
              · rw [List.getElem?_append_right (by rw [List.length_append, hto, hzc2]; omega), List.getElem?_drop, List.length_append, hto, hzc2, show off + n * i.size + (j - (off + n * i.size)) = j by omega]
                exact k1
    · exact h4.elim
  · exact h4.elim
end
end Vm
end Go.Proofs.YtcafmkekkcbamaaGreat
namespace Go.Proofs.YtcafmkekkcbamaaGreat
open Go.RowKit
namespace Vm

/-- The cells of a type's zero value, if they are plain. -/
def zeroC (P : Program) (T : TypeId) : Option (TypeInfo × List Value) :=
  match P.info? T with
  | some i => (match i.zero with
    | some z => if z.cells.toList.all scalarK then some (i, z.cells.toList) else none
    | none => none)
  | none => none
theorem zeroC_out {P : Program} {T : TypeId} {i : TypeInfo} {zc : List Value} (h : zeroC P T = some (i, zc)) : ∃ z, P.info? T = some i ∧ i.zero = some z ∧ zc = z.cells.toList ∧ zc.all scalarK = true := by
  unfold zeroC at h
  split at h
  · rename_i i' hi
    split at h
    · rename_i z hz
      split at h
      · rename_i hk
        cases h
        exact ⟨z, hi, hz, rfl, hk⟩
      · cases h
    · cases h
  · cases h

def bslZ (z : Value) (len sz : Nat) : List Value := if len * sz = 0 then [] else ((Array.range (len * sz)).map (z.cells[· % z.cells.size]!)).toList

def compCall (P : Program) (c : Call) : Option VI :=
  match c.callee with
  | .value f => (match cx f, cxs c.args.toList with
    | some f', some l => some (.call f' l)
    | _, _ => none)
  | .invoke _ _ => none
  | .builtin b => (match b, c.args.toList, c.argTypes.toList with
    | .len, [x], [t] => (match P.underlying t, cx x with
      | some (.slice _), some x' => some (.len x')
      | some .string, some x' => some (.slen x')
      | _, _ => none)
    | .max, [x, y], _ => (match cx x, cx y with
      | some x', some y' => some (.mm true x' y')
      | _, _ => none)
    | .min, [x, y], _ => (match cx x, cx y with
      | some x', some y' => some (.mm false x' y')
      | _, _ => none)
    | .append, [x, y], [t, t'] => if t = t' then (match P.underlying t, cx x, cx y with
      | some (.slice e), some x', some y' => (match zeroC P e with
        | some (i, zc) => if zc.length = i.size ∧ 0 < i.size ∧ 0 < i.bytes then some (.app e i.size i.bytes x' y') else none
        | none => none)
      | _, _, _ => none) else none
    | .clear, [x], [t] => (match P.underlying t, cx x with
      | some (.slice e), some x' => (match zeroC P e with
        | some (i, zc) => if zc.length = i.size ∧ 0 < i.size then some (.clr i.size zc x') else none
        | none => none)
      | _, _ => none)
    | _, _, _ => none)

def comp (P : Program) (op : Op) : Option VI :=
  match op with
  | .move x => (cx x).map .mov
  | .assign x => (cx x).map .mov
  | .pick c a b => (match cx c, cx a, cx b with
    | some c', some a', some b' => some (.pick c' a' b')
    | _, _, _ => none)
  | .alloc T => (match zeroC P T with
    | some (_, zc) => some (.alloc T zc)
    | none => none)
  | .box T x => (cx x).map (.box T)
  | .build t parts => (match placeF P t, zeroC P t with
    | some place, some (_, zc) => (match cparts place parts.toList with
      | some qs => some (.build zc qs)
      | none => none)
    | _, _ => none)
  | .buildSlice t len parts => (match P.underlying t with
    | some (.slice e) => (match P.info? e with
      | some i => (match i.zero with
        | some z => (match cparts (fun j => some (j * i.size, i.size)) parts.toList with
          | some qs => if (bslZ z len i.size).all scalarK ∧ len * i.size ≤ 2 ^ 24 then
              some (.bsl e len (bslZ z len i.size) qs) else none
          | none => none)
        | none => none)
      | none => none)
    | _ => none)
  | .load t x => (match cx x, aggB P t, P.info? t with
    | some x', some agg, some i => some (.ld agg i.size x')
    | _, _, _ => none)
  | .store t x y => (match cx x, cx y, P.info? t with
    | some x', some y', some i => some (.st i.size x' y')
    | _, _, _ => none)
  | .nilCheck x => (cx x).map .nil
  | .binOp op t x y _ => (match cx x, cx y with
    | some x', some y' => (match eqC P t, op with
      | some c, .eql => some (.eqv c false x' y')
      | some c, .neq => some (.eqv c true x' y')
      | some _, _ => none
      | none, _ => some (.bin op x' y'))
    | _, _ => none)
  | .unOp .neg _ x => (cx x).map .neg
  | .unOp .not _ x => (cx x).map .not
  | .convert t t' x => (match P.underlying t, P.underlying t', cx x with
    | some (.int _), some (.int k), some x' => some (.conv k x')
    | _, _, _ => none)
  | .makeFunc (.func f) first caps => (match cxs first.toList, cxs caps.toList with
    | some u, some l => some (.mkf f u l)
    | _, _ => none)
  | .makeSlice t x y => (match P.underlying t, cx x, cx y with
    | some (.slice e), some x', some y' => (match zeroC P e with
      | some (i, zc) => if zc.length = i.size ∧ 0 < i.size then some (.mks e i.size i.bytes zc x' y') else none
      | none => none)
    | _, _, _ => none)
  | .slice t x lo hi mx => (match P.underlying t, cx x, cxo lo with
    | some (.slice e), some x', some lo' => (match P.info? e, cxo hi, cxo mx with
      | some i, some hi', some mx' => if 0 < i.size then some (.sl i.size x' lo' hi' mx') else none
      | _, _, _ => none)
    | _, _, _ => none)
  | .fieldAddr s x f => (match P.underlying s, cx x with
    | some (.struct fields), some x' => (match fields[f]? with
      | some g => (match P.info? g.type with
        | some i => if i.size = 0 then none else some (.fad g.offset x')
        | none => none)
      | none => none)
    | _, _ => none)
  | .field s x f => (match P.underlying s, cx x with
    | some (.struct fields), some x' => (match fields[f]? with
      | some g => (match P.info? g.type, aggB P g.type with
        | some i, some agg => some (.fld agg g.offset i.size x')
        | _, _ => none)
      | none => none)
    | _, _ => none)
  | .indexAddr t x y => (match P.underlying t, cx x, cx y with
    | some (.slice e), some x', some y' => (match P.info? e with
      | some i => some (.ixa i.size x' y')
      | none => none)
    | _, _, _ => none)
  | .index t x y => (match P.underlying t, cx x, cx y with
    | some (.array n e), some x', some y' => (match P.info? e, aggB P e with
      | some i, some agg => some (.idx agg n i.size x' y')
      | _, _ => none)
    | _, _, _ => none)
  | .extract x i => (cx x).map (.ext i)
  | .call c => compCall P c
  | .defer _ => none
  | _ => some .dead

section
variable {P : Program} {o : Oper} {E : Env} {M : VMem} {K : Value → VMem → Prop}

theorem array_one {α : Type} {l : Array α} {x : α} (h : l.toList = [x]) : l = #[x] := by apply Array.ext'; simpa using h
theorem array_two {α : Type} {l : Array α} {x y : α} (h : l.toList = [x, y]) : l = #[x, y] := by apply Array.ext'; simpa using h

theorem compCall_does {c : Call} (ho : o.op = .call c) {i : VI} (hc : compCall P c = some i) (hn : ∀ f l, i ≠ .call f l) (h : ev P i E M K) : Does P o E M K := by
  unfold compCall at hc
  split at hc
  · split at hc
    · cases hc; exact absurd rfl (hn _ _)
    · cases hc
  · cases hc
  · rename_i b hcal
    split at hc
    · rename_i x t ha ht
      split at hc
      · rename_i e x' hu hx; cases hc
        exact does_len ho hcal (array_one ha) (array_one ht) hx hu h
      · rename_i x' hu hx; cases hc
        exact does_slen ho hcal (array_one ha) (array_one ht) hx hu h
      · cases hc
    · rename_i x y ha
      split at hc
      · rename_i x' y' hx hy; cases hc
        exact does_mm (mx := true) ho hcal (array_two ha) hx hy h
      · cases hc
    · rename_i x y ha
      split at hc
      · rename_i x' y' hx hy; cases hc
        exact does_mm (mx := false) ho hcal (array_two ha) hx hy h
      · cases hc
    · rename_i x y t t' ha ht
      split at hc
      · rename_i htt; subst htt
        split at hc
        · rename_i e x' y' hu hx hy
          split at hc
          · rename_i inf zc hz
            split at hc
            · rename_i hcond; cases hc
              obtain ⟨z, hi, hz1, hz2, hz3⟩ := zeroC_out hz
              exact does_app ho hcal (array_two ha) (array_two ht) hx hy hu hi hz1 (by rw [← hcond.1, hz2]; simp) hcond.2.1 hcond.2.2 h
            · cases hc
          · cases hc
        · cases hc
      · cases hc
    · rename_i x t ha ht
      split at hc
      · rename_i e x' hu hx
        split at hc
        · rename_i inf zc hz
          split at hc
          · rename_i hcond; cases hc
            obtain ⟨z, hi, hz1, hz2, hz3⟩ := zeroC_out hz
            exact does_clr ho hcal (array_one ha) (array_one ht) hx hu hi hz1 hz2 hz3 hcond.1 hcond.2 h
          · cases hc
        · cases hc
      · cases hc
    · cases hc

theorem comp_does {i : VI} (hc : comp P o.op = some i) (hn : ∀ f l, i ≠ .call f l) (h : ev P i E M K) : Does P o E M K := by
  unfold comp at hc
  split at hc
  case h_1 x ho => obtain ⟨y, hy, rfl⟩ := Option.map_eq_some_iff.1 hc; exact does_mov (.inl ho) hy h
  case h_2 x ho => obtain ⟨y, hy, rfl⟩ := Option.map_eq_some_iff.1 hc; exact does_mov (.inr ho) hy h
  case h_3 c x y ho =>
    split at hc
    · rename_i h1 h2 h3; cases hc; exact does_pick ho h1 h2 h3 h
    · cases hc
  case h_4 T ho =>
    split at hc
    · rename_i inf zc hz; cases hc
      obtain ⟨z, hi, hz1, hz2, hz3⟩ := zeroC_out hz
      exact does_alloc ho hi hz1 hz2 hz3 h
    · cases hc
  case h_5 T x ho => obtain ⟨y, hy, rfl⟩ := Option.map_eq_some_iff.1 hc; exact does_box ho hy h
  case h_6 t parts ho =>
    split at hc
    · rename_i place inf zc hp hz
      split at hc
      · rename_i qs hq; cases hc
        obtain ⟨z, hi, hz1, hz2, hz3⟩ := zeroC_out hz
        exact does_build ho hp hi hz1 hz2 hz3 hq h
      · cases hc
    · cases hc
  case h_7 t len parts ho =>
    split at hc
    · rename_i e hu
      split at hc
      · rename_i inf hi
        split at hc
        · rename_i z hz
          split at hc
          · rename_i qs hq
            split at hc
            · rename_i hcond; cases hc
              exact does_bsl ho hu hi hz rfl hcond.1 hcond.2 hq h
            · cases hc
          · cases hc
        · cases hc
      · cases hc
    · cases hc
  case h_8 t x ho =>
    split at hc
    · rename_i h1 h2 h3; cases hc; exact does_ld ho h1 h2 h3 h
    · cases hc
  case h_9 t x y ho =>
    split at hc
    · rename_i h1 h2 h3; cases hc; exact does_st ho h1 h2 h3 h
    · cases hc
  case h_10 x ho => obtain ⟨y, hy, rfl⟩ := Option.map_eq_some_iff.1 hc; exact does_nil ho hy h
  case h_11 op t x y t' ho =>
    split at hc
    · rename_i h1 h2
      split at hc
      · rename_i c h3; cases hc; exact does_eqv (neg := false) ho h1 h2 h3 h
      · rename_i c h3; cases hc; exact does_eqv (neg := true) ho h1 h2 h3 h
      · cases hc
      · cases hc; exact does_bin ho h1 h2 h
    · cases hc
  case h_12 t x ho => obtain ⟨y, hy, rfl⟩ := Option.map_eq_some_iff.1 hc; exact does_neg ho hy h
  case h_13 t x ho => obtain ⟨y, hy, rfl⟩ := Option.map_eq_some_iff.1 hc; exact does_not ho hy h
  case h_14 t t' x ho =>
    split at hc
    · rename_i h1 h2 h3; cases hc; exact does_conv ho h3 h1 h2 h
    · cases hc
  case h_15 f first caps ho =>
    split at hc
    · rename_i u l hu hl
      cases hc
      exact does_mkf ho hu hl h
    · cases hc
  case h_16 t x y ho =>
    split at hc
    · rename_i e x' y' hu hx hy
      split at hc
      · rename_i inf zc hz
        split at hc
        · rename_i hcond; cases hc
          obtain ⟨z, hi, hz1, hz2, hz3⟩ := zeroC_out hz
          exact does_mks ho hx hy hu hi hz1 hz2 hz3 hcond.1 hcond.2 h
        · cases hc
      · cases hc
    · cases hc
  case h_17 t x lo hi mx ho =>
    split at hc
    · rename_i e x' lo' hu hx hlo
      split at hc
      · rename_i inf hi' mx' hinf hhi hmx
        split at hc
        · rename_i hpos; cases hc
          exact does_sl ho hx hlo hhi hmx hu hinf hpos h
        · cases hc
      · cases hc
    · cases hc
  case h_18 s x f ho =>
    split at hc
    · rename_i fields x' hu hx
      split at hc
      · rename_i g hg
        split at hc
        · rename_i inf hi
          split at hc
          · cases hc
          · rename_i h0; cases hc
            exact does_fad ho hx hu hg hi h0 h
        · cases hc
      · cases hc
    · cases hc
  case h_19 s x f ho =>
    split at hc
    · rename_i fields x' hu hx
      split at hc
      · rename_i g hg
        split at hc
        · rename_i inf agg hi ha; cases hc
          exact does_fld ho hx hu hg ha hi h
        · cases hc
      · cases hc
    · cases hc
  case h_20 t x y ho =>
    split at hc
    · rename_i e x' y' hu hx hy
      split at hc
      · rename_i inf hi; cases hc
        exact does_ixa ho hx hy hu hi h
      · cases hc
    · cases hc
  case h_21 t x y ho =>
    split at hc
    · rename_i n e x' y' hu hx hy
      split at hc
      · rename_i inf agg hi ha; cases hc
        exact does_idx ho hx hy hu hi ha h
      · cases hc
    · cases hc
  case h_22 x i' ho => obtain ⟨y, hy, rfl⟩ := Option.map_eq_some_iff.1 hc; exact does_ext ho hy h
  case h_23 c ho => exact compCall_does ho hc hn h
  case h_24 => cases hc
  case h_25 => cases hc; exact h.elim
end
end Vm
end Go.Proofs.YtcafmkekkcbamaaGreat
namespace Go.Proofs.YtcafmkekkcbamaaGreat
open Go.RowKit
namespace Vm

abbrev Fr (r : Option Nat) : Fence := { Fence.wide with round := r }

section
variable {P : Program} {C : Ctx} {nt : Nat} {ρ : Ren} {E : Env} {M : VMem} {a : Act} {w : World} {o : Oper} {K : Value → VMem → Prop} {r : Option Nat} {next : Act → World → Prop} {Q : Exit → Act → World → Prop}

theorem comp_no_defer {i : VI} {op : Op} (hc : comp P op = some i) : ∀ c, op ≠ .defer c := by
  intro c e
  subst e
  simp [comp] at hc

theorem op_step {i : VI} (hc : comp P o.op = some i) (h : ev P i E M K) (hs : St C nt ρ E M a w)
    (hn : ∀ v v' M' ρ' w', K v M' → VR ρ' v v' → ρ.le ρ' → St C nt ρ' E M' a w' → next (a.put o.dst v') w') : o.wpIn (Fr r) 0 P a w next Q := by
  refine ⟨fun _ _ => trivial, ?_⟩
  rw [Oper.semAt_eq _ _ _ (comp_no_defer hc)]
  by_cases hcall : ∃ f l, i = .call f l
  · obtain ⟨f, l, rfl⟩ := hcall
    have hcc : ∃ c g, o.op = .call c ∧ c.callee = .value g ∧ cx g = some f ∧ cxs c.args.toList = some l := by
      unfold comp at hc
      split at hc
      case h_23 c ho =>
        unfold compCall at hc
        split at hc
        · rename_i g hg
          split at hc
          · rename_i h1 h2; cases hc; exact ⟨c, g, ho, hg, h1, h2⟩
          · cases hc
        · cases hc
        · exfalso
          repeat' (first | (cases hc; done) | (split at hc))
      all_goals (exfalso; repeat' (first | (cases hc; done) | (obtain ⟨y, hy, he⟩ := Option.map_eq_some_iff.1 hc; cases he; done) | (split at hc)))
    obtain ⟨c, g, ho, hg, hf, hl⟩ := hcc
    obtain ⟨fv, hfv, h⟩ := xvOr_out h
    have hR := hs.opd hf hfv
    split at h
    · rename_i args hargs
      have hA := hs.opds hl hargs
      split at h
      · rename_i gf xs cs
        generalize hge : a.eval g = gv at hR
        cases hR with
        | func _ xs ys cs ds hx hcs =>
          have hcap := h r C nt ρ E a w (ys ++ c.args.toList.map a.eval ++ ds) next Q o hs ((hx.append hA).append hcs) hn
          have hrun : (execOp a.eval o).run P w = (callFunc gf ⟨ys ++ c.args.toList.map a.eval ++ ds⟩).run P w := by
            have e1 : (Array.mk ys ++ c.args.map a.eval) ++ Array.mk ds = ⟨ys ++ c.args.toList.map a.eval ++ ds⟩ := by apply Array.ext'; simp
            simp only [execOp, ho, resolve, hg, Deferred.ofValue, hge, Sem.run_bind, Sem.run_pure, Result.andThen_ok, invoke]
            rw [e1]
          rw [hrun]; exact hcap
      · rename_i k xs cs
        generalize hge : a.eval g = gv at hR
        cases hR with
        | yield _ b base cap hr =>
          have hcap := h r C nt ρ E a w (c.args.toList.map a.eval) next Q o b base cap hs hA hr hn
          have hrun : (execOp a.eval o).run P w = (Instr.yield b ⟨c.args.toList.map a.eval⟩).run P w := by
            have e1 : (#[] : Array Value) ++ c.args.map a.eval = ⟨c.args.toList.map a.eval⟩ := by apply Array.ext'; simp
            simp only [execOp, ho, resolve, hg, Deferred.ofValue, hge, Sem.run_bind, Sem.run_pure, Result.andThen_ok, invoke]
            rw [e1]
          rw [hrun]; exact hcap
      · exact h.elim
    · exact h.elim
  · obtain ⟨v, v', M', ρ', w', hrun, hk, hv, hle, hs'⟩ := comp_does hc (fun f l e => hcall ⟨f, l, e⟩) h C nt ρ a w hs
    have := hn v v' M' ρ' w' hk hv hle hs'
    rcases hrun with hrun | ⟨hrun, rfl⟩
    · rw [hrun]; exact this
    · rw [hrun]; exact this
end

/-! ### Rows of operations -/

structure VO where
  dst : Option Nat
  guard : Option (Nat × Bool)
  i : VI

def compO (P : Program) (nt : Nat) (ops : Array Oper) (o : Oper) : Option VO :=
  match comp P o.op with
  | some i => (match o.dst with
    | none => (match o.guard with
      | none => some ⟨none, none, i⟩
      | some (j, want) => (match (ops[j]?).bind (·.dst) with
        | some t => some ⟨none, some (t, want), i⟩
        | none => none))
    | some d => if d < nt then (match o.guard with
      | none => some ⟨some d, none, i⟩
      | some (j, want) => (match (ops[j]?).bind (·.dst) with
        | some t => some ⟨some d, some (t, want), i⟩
        | none => none)) else none)
  | none => none
def compOs (P : Program) (nt : Nat) (ops : Array Oper) : List Oper → Option (List VO)
  | [] => some []
  | o :: l => match compO P nt ops o, compOs P nt ops l with
    | some v, some r => some (v :: r)
    | _, _ => none

def upd (d : Option Nat) (v : Value) (E : Env) : Env :=
  match d with
  | some d => (d, v) :: E
  | none => E

/-- (By the recursor itself: so that what is unfolded is alike wherever it is unfolded.) -/
def evOps (P : Program) (l : List VO) : Env → VMem → (Env → VMem → Prop) → Prop :=
  @List.rec VO (fun _ => Env → VMem → (Env → VMem → Prop) → Prop) (fun E M K => K E M)
    (fun o _ ih E M K => match o.guard with
      | none => ev P o.i E M fun v M' => ih (upd o.dst v E) M' K
      | some (t, want) => xvOr E (.t t) fun u => (match u with
        | .bool b => (match want with
          | true => Br b (ev P o.i E M fun v M' => ih (upd o.dst v E) M' K) (ih (upd o.dst undef E) M K)
          | false => Br b (ih (upd o.dst undef E) M K) (ev P o.i E M fun v M' => ih (upd o.dst v E) M' K))
        | _ => False)) l
theorem evOps_nil {P : Program} {E : Env} {M : VMem} {K : Env → VMem → Prop} : evOps P [] E M K = K E M := rfl
theorem evOps_eq {P : Program} {o : VO} {l : List VO} {E : Env} {M : VMem} {K : Env → VMem → Prop} : evOps P (o :: l) E M K = (match o.guard with
    | none => ev P o.i E M fun v M' => evOps P l (upd o.dst v E) M' K
    | some (t, want) => xvOr E (.t t) fun u => (match u with
      | .bool b => (match want with
        | true => Br b (ev P o.i E M fun v M' => evOps P l (upd o.dst v E) M' K) (evOps P l (upd o.dst undef E) M K)
        | false => Br b (evOps P l (upd o.dst undef E) M K) (ev P o.i E M fun v M' => evOps P l (upd o.dst v E) M' K))
      | _ => False)) := rfl

theorem compO_out {P : Program} {nt : Nat} {ops : Array Oper} {o : Oper} {v : VO} (h : compO P nt ops o = some v) :
    comp P o.op = some v.i ∧ o.dst = v.dst ∧ (∀ d, o.dst = some d → d < nt) ∧ ((o.guard = none ∧ v.guard = none) ∨ ∃ j want t, o.guard = some (j, want) ∧ v.guard = some (t, want) ∧ (ops[j]?).bind (·.dst) = some t) := by
  unfold compO at h
  split at h
  · rename_i i hi
    split at h
    · rename_i hd
      split at h
      · rename_i hg; cases h; exact ⟨hi, hd, fun d e => by (rw [hd] at e; cases e), .inl ⟨hg, rfl⟩⟩
      · rename_i j want hg
        split at h
        · rename_i t ht; cases h; exact ⟨hi, hd, fun d e => by (rw [hd] at e; cases e), .inr ⟨j, want, t, hg, rfl, ht⟩⟩
        · cases h
    · rename_i d hd
      split at h
      · rename_i hlt
        split at h
        · rename_i hg; cases h; exact ⟨hi, hd, fun d' e => by (rw [hd] at e; cases e; exact hlt), .inl ⟨hg, rfl⟩⟩
        · rename_i j want hg
          split at h
          · rename_i t ht; cases h; exact ⟨hi, hd, fun d' e => by (rw [hd] at e; cases e; exact hlt), .inr ⟨j, want, t, hg, rfl, ht⟩⟩
          · cases h
      · cases h
  · cases h

theorem St.upd {C : Ctx} {nt : Nat} {ρ : Ren} {E : Env} {M : VMem} {a : Act} {w : World} (h : St C nt ρ E M a w) {d : Option Nat} (hd : ∀ x, d = some x → x < nt) {v v' : Value} (hv : VR ρ v v') : St C nt ρ (upd d v E) M (a.put d v') w := by
  cases d with
  | none => exact h
  | some d => exact h.put (hd d rfl) hv

/-- Does a guarded operation take place? -/
theorem wanted_of {C : Ctx} {nt : Nat} {ρ : Ren} {E : Env} {M : VMem} {a : Act} {w : World} (h : St C nt ρ E M a w) {ops : Array Oper} {o : Oper} {j t : Nat} {want b : Bool} (hg : o.guard = some (j, want)) (ht : (ops[j]?).bind (·.dst) = some t)
    (hb : eget E t = some (.bool b)) : Region.wanted o (yielded ops a.tmps) = (b == want) := by
  obtain ⟨v', h1, h2⟩ := h.env t _ hb
  have := VR.bool_inv h2
  subst this
  simp only [Region.wanted, hg, yielded]
  rw [ht]
  simp only [Option.bind_some, h1]
  cases b <;> cases want <;> rfl

theorem evOps_sound {P : Program} {r : Option Nat} {nt : Nat} {ops : Array Oper} {Q : Exit → Act → World → Prop} {K : Env → VMem → Prop} {C : Ctx} {ρ0 : Ren} :
    ∀ (l : List Oper) (vl : List VO) (k : Nat), (∀ j, l[j]? = ops[k + j]?) → compOs P nt ops l = some vl → ∀ (E : Env) (M : VMem) (ρ : Ren) (a : Act) (w : World), evOps P vl E M K → St C nt ρ E M a w → ρ0.le ρ →
      (∀ E' M' ρ' a' w', K E' M' → ρ0.le ρ' → St C nt ρ' E' M' a' w' → Q .normal a' w') → wpOpsIn (Fr r) 0 P ops Q (List.range' k l.length) a w
  | [], vl, k, _, hc, E, M, ρ, a, w, h, hs, hle, hQ => by
    simp [compOs] at hc; subst hc
    exact hQ E M ρ a w h hle hs
  | o :: l, vl, k, hl, hc, E, M, ρ, a, w, h, hs, hle, hQ => by
    have h0 : ops[k]? = some o := by have := hl 0; simpa using this.symm
    have hl' : ∀ j, l[j]? = ops[k + 1 + j]? := fun j => by have := hl (j + 1); rw [show k + 1 + j = k + (j + 1) by omega]; simpa using this
    simp only [compOs] at hc
    split at hc
    · rename_i v rs hv hrs
      cases hc
      obtain ⟨h1, h2, h3, h4⟩ := compO_out hv
      have does : ev P v.i E M (fun u M' => evOps P rs (upd v.dst u E) M' K) → o.wpIn (Fr r) 0 P a w (wpOpsIn (Fr r) 0 P ops Q (List.range' (k + 1) l.length)) Q := by
        intro hev
        refine op_step h1 hev hs ?_
        intro u u' M' ρ' w' hk hu hle' hs'
        exact evOps_sound l rs (k + 1) hl' hrs _ _ ρ' _ w' hk (by rw [← h2]; exact hs'.upd h3 hu) (Ren.le_trans hle hle') hQ
      have skips : evOps P rs (upd v.dst undef E) M K → wpOpsIn (Fr r) 0 P ops Q (List.range' (k + 1) l.length) (a.put o.dst Go.undef) w := by
        intro hev
        exact evOps_sound l rs (k + 1) hl' hrs _ _ ρ _ w hev (by rw [← h2]; exact hs.upd h3 (VR.undef ρ)) hle hQ
      simp only [List.length_cons, List.range'_succ, wpOpsIn, h0]
      rw [evOps_eq] at h
      rcases h4 with ⟨hg, hvg⟩ | ⟨j, want, t, hg, hvg, ht⟩
      · rw [hvg] at h
        rw [if_pos (by simp [Region.wanted, hg])]
        exact does h
      · rw [hvg] at h
        obtain ⟨u, hu, h⟩ := xvOr_out h
        split at h
        · rename_i b
          have hw := wanted_of hs hg ht hu
          split at h
          · cases b with
            | true => rw [if_pos (by rw [hw]; rfl)]; exact does h.ott
            | false => rw [if_neg (by rw [hw]; decide)]; exact ⟨fun _ _ => trivial, skips h.off⟩
          · cases b with
            | true => rw [if_neg (by rw [hw]; decide)]; exact ⟨fun _ _ => trivial, skips h.ott⟩
            | false => rw [if_pos (by rw [hw]; rfl)]; exact does h.off
        · exact h.elim
    · cases hc

end Vm
end Go.Proofs.YtcafmkekkcbamaaGreat
namespace Go.Proofs.YtcafmkekkcbamaaGreat
open Go.RowKit
namespace Vm

def rdx : VX → List Nat
  | .t n => [n]
  | .k _ => []
def rdo : Option VX → List Nat
  | some x => rdx x
  | none => []
def rdxs : List VX → List Nat
  | [] => []
  | x :: l => rdx x ++ rdxs l
def rdps : List (Nat × Nat × VX) → List Nat
  | [] => []
  | (_, _, x) :: l => rdx x ++ rdps l
/-- The temporaries an instruction reads. -/
def rd : VI → List Nat
  | .mov x | .box _ x | .ld _ _ x | .nil x | .neg x | .not x | .conv _ x | .fad _ x | .fld _ _ _ x | .ext _ x | .len x | .slen x | .clr _ _ x => rdx x
  | .pick c a b => rdx c ++ (rdx a ++ rdx b)
  | .alloc _ _ => []
  | .dead => []
  | .build _ ps => rdps ps
  | .bsl _ _ _ ps => rdps ps
  | .st _ x y | .bin _ x y | .eqv _ _ x y | .ixa _ x y | .idx _ _ _ x y | .mm _ x y | .app _ _ _ x y => rdx x ++ rdx y
  | .mkf _ u l => rdxs u ++ rdxs l
  | .mks _ _ _ _ x y => rdx x ++ rdx y
  | .sl _ x lo hi mx => rdx x ++ (rdo lo ++ (rdo hi ++ rdo mx))
  | .call f l => rdx f ++ rdxs l

section
variable {P : Program} {E E' : Env} {M : VMem} {K : Value → VMem → Prop}

theorem xv_congr {x : VX} (h : ∀ t ∈ rdx x, eget E t = eget E' t) : xv E x = xv E' x := by
  cases x with
  | t n => exact h n (by simp [rdx])
  | k v => rfl
theorem xvs_congr : ∀ {l : List VX}, (∀ t ∈ rdxs l, eget E t = eget E' t) → xvs E l = xvs E' l
  | [], _ => rfl
  | x :: l, h => by
    simp only [xvs, xv_congr (x := x) (fun t ht => h t (by simp [rdxs, ht])), xvs_congr (l := l) (fun t ht => h t (by simp [rdxs, ht]))]
theorem partsO_congr : ∀ {l : List (Nat × Nat × VX)}, (∀ t ∈ rdps l, eget E t = eget E' t) → partsO E l = partsO E' l
  | [], _ => rfl
  | (a, n, x) :: l, h => by
    simp only [partsO, xv_congr (x := x) (fun t ht => h t (by simp [rdps, ht])), partsO_congr (l := l) (fun t ht => h t (by simp [rdps, ht]))]
theorem evBd_congr {x : Option VX} (h : ∀ t ∈ rdo x, eget E t = eget E' t) (d top : Nat) (K : Nat → Prop) : evBd E x d top K = evBd E' x d top K := by
  cases x with
  | none => rfl
  | some x => simp only [evBd, xv_congr (x := x) h]
theorem evHi_congr {mx hi : Option VX} (h : ∀ t ∈ rdo hi, eget E t = eget E' t) (len m : Nat) (K : Nat → Prop) : evHi E mx hi len m K = evHi E' mx hi len m K := by
  cases hi with
  | none => rfl
  | some x => simp only [evHi, evBd_congr (x := some x) h]

theorem ev_congr {i : VI} (h : ∀ t ∈ rd i, eget E t = eget E' t) : ev P i E M K = ev P i E' M K := by
  cases i with
  | dead => rfl
  | pick c a b =>
    simp only [ev, xvOr, xv_congr (x := c) (fun t ht => h t (by simp [rd, ht])), xv_congr (x := a) (fun t ht => h t (by simp [rd, ht])), xv_congr (x := b) (fun t ht => h t (by simp [rd, ht]))]
  | alloc => rfl
  | build zc ps => simp only [ev, partsO_congr (l := ps) h]
  | bsl T len zc ps => simp only [ev, partsO_congr (l := ps) h]
  | mkf f u l => simp only [ev, xvs_congr (l := u) (fun t ht => h t (by simp [rd, ht])), xvs_congr (l := l) (fun t ht => h t (by simp [rd, ht]))]
  | call f l => simp only [ev, xvOr, xv_congr (x := f) (fun t ht => h t (by simp [rd, ht])), xvs_congr (l := l) (fun t ht => h t (by simp [rd, ht]))]
  | sl sz x lo hi mx =>
    simp only [ev, xvOr, xv_congr (x := x) (fun t ht => h t (by simp [rd, ht])), evBd_congr (x := lo) (fun t ht => h t (by simp [rd, ht])), evBd_congr (x := mx) (fun t ht => h t (by simp [rd, ht])), evHi_congr (hi := hi) (fun t ht => h t (by simp [rd, ht]))]
  | mov x => simp only [ev, xvOr, xv_congr (x := x) h]
  | box T x => simp only [ev, xvOr, xv_congr (x := x) h]
  | ld a n x => simp only [ev, xvOr, xv_congr (x := x) h]
  | nil x => simp only [ev, xvOr, xv_congr (x := x) h]
  | neg x => simp only [ev, xvOr, xv_congr (x := x) h]
  | not x => simp only [ev, xvOr, xv_congr (x := x) h]
  | conv k x => simp only [ev, xvOr, xv_congr (x := x) h]
  | fad o x => simp only [ev, xvOr, xv_congr (x := x) h]
  | fld a o n x => simp only [ev, xvOr, xv_congr (x := x) h]
  | ext i x => simp only [ev, xvOr, xv_congr (x := x) h]
  | len x => simp only [ev, xvOr, xv_congr (x := x) h]
  | slen x => simp only [ev, xvOr, xv_congr (x := x) h]
  | clr s z x => simp only [ev, xvOr, xv_congr (x := x) h]
  | st n x y => simp only [ev, xvOr, xv_congr (x := x) (fun t ht => h t (by simp [rd, ht])), xv_congr (x := y) (fun t ht => h t (by simp [rd, ht]))]
  | bin op x y => simp only [ev, xvOr, xv_congr (x := x) (fun t ht => h t (by simp [rd, ht])), xv_congr (x := y) (fun t ht => h t (by simp [rd, ht]))]
  | eqv c n x y => simp only [ev, xvOr, xv_congr (x := x) (fun t ht => h t (by simp [rd, ht])), xv_congr (x := y) (fun t ht => h t (by simp [rd, ht]))]
  | ixa sz x y => simp only [ev, xvOr, xv_congr (x := x) (fun t ht => h t (by simp [rd, ht])), xv_congr (x := y) (fun t ht => h t (by simp [rd, ht]))]
  | idx a n sz x y => simp only [ev, xvOr, xv_congr (x := x) (fun t ht => h t (by simp [rd, ht])), xv_congr (x := y) (fun t ht => h t (by simp [rd, ht]))]
  | mm b x y => simp only [ev, xvOr, xv_congr (x := x) (fun t ht => h t (by simp [rd, ht])), xv_congr (x := y) (fun t ht => h t (by simp [rd, ht]))]
  | app T sz bs x y => simp only [ev, xvOr, xv_congr (x := x) (fun t ht => h t (by simp [rd, ht])), xv_congr (x := y) (fun t ht => h t (by simp [rd, ht]))]
  | mks T sz bs zc x y => simp only [ev, xvOr, xv_congr (x := x) (fun t ht => h t (by simp [rd, ht])), xv_congr (x := y) (fun t ht => h t (by simp [rd, ht]))]

/-! ### What comes of it is settled -/

/-- A question put to what follows is put at one place alone. -/
def Det {α : Type} (F : (α → Prop) → Prop) : Prop := ∀ K, F K → ∃ a, K a ∧ ∀ K', K' a → F K'
theorem Det.here {α : Type} (a : α) : Det (fun K => K a) := fun _ h => ⟨a, h, fun _ h => h⟩
theorem Det.no {α : Type} : Det (fun _ : α → Prop => False) := fun _ h => h.elim
theorem Det.br {α : Type} (b : Bool) {F G : (α → Prop) → Prop} (hF : Det F) (hG : Det G) : Det (fun K => Br b (F K) (G K)) := by
  intro K h
  cases b with
  | true =>
    obtain ⟨a, ha, hx⟩ := hF K h.ott
    exact ⟨a, ha, fun K' hk => Br.tt (hx K' hk)⟩
  | false =>
    obtain ⟨a, ha, hx⟩ := hG K h.off
    exact ⟨a, ha, fun K' hk => Br.ff (hx K' hk)⟩
theorem Det.bind {α β : Type} {F : (α → Prop) → Prop} {G : α → (β → Prop) → Prop} (hF : Det F) (hG : ∀ a, Det (G a)) : Det (fun K => F fun a => G a K) := by
  intro K h
  obtain ⟨a, ha, hF'⟩ := hF _ h
  obtain ⟨b, hb, hG'⟩ := hG a K ha
  exact ⟨b, hb, fun K' hk => hF' _ (hG' K' hk)⟩
theorem Det.and {α : Type} {p : Prop} {F : (α → Prop) → Prop} (hF : Det F) : Det (fun K => p ∧ F K) := by
  rintro K ⟨hp, h⟩
  obtain ⟨a, ha, hF'⟩ := hF _ h
  exact ⟨a, ha, fun K' hk => ⟨hp, hF' K' hk⟩⟩

theorem Det.xvOr (E : Env) (x : VX) : Det (Vm.xvOr E x) := by
  unfold Vm.xvOr
  split
  · exact Det.here _
  · exact Det.no

/-- An instruction that asks nothing of memory, and leaves it as it is. -/
def pureI : VI → Bool
  | .mov _ | .pick _ _ _ | .build _ _ | .nil _ | .bin _ _ _ | .eqv _ _ _ _ | .neg _ | .not _ | .conv _ _ | .mkf _ _ _ | .sl _ _ _ _ _ | .fad _ _ | .fld _ _ _ _ | .ixa _ _ _ | .idx _ _ _ _ _ | .ext _ _ | .len _ | .slen _ | .mm _ _ _ | .dead => true
  | _ => false

theorem Det.evBin (op : BinOp) (u v : Value) : Det (Vm.evBin op u v) := by
  unfold Vm.evBin
  repeat' (first | exact Det.here _ | exact Det.no | apply Det.br | split)
theorem Det.evBd (E : Env) (x : Option VX) (d top : Nat) : Det (Vm.evBd E x d top) := by
  unfold Vm.evBd
  repeat' (first | exact Det.here _ | exact Det.no | apply Det.br | split)
theorem Det.evHi (E : Env) (mx hi : Option VX) (d top : Nat) : Det (Vm.evHi E mx hi d top) := by
  unfold Vm.evHi
  repeat' (first | exact Det.here _ | exact Det.no | exact Det.evBd _ _ _ _ | apply Det.br | split)
theorem Det.evSl (sz : Nat) (lo : Option VX) (ad : Option Addr) (m h l : Nat) : Det (Vm.evSl sz lo ad m h l) := by
  unfold Vm.evSl
  repeat' (first | exact Det.here _ | exact Det.no | apply Det.br | split)

/-- What a pure instruction yields: no memory is asked for. -/
def evP (i : VI) (E : Env) (K : Value → Prop) : Prop := ∃ v, K v ∧ ∀ (P : Program) M (K' : Value → VMem → Prop), K' v M → ev P i E M K'

theorem pure_det {i : VI} (hp : pureI i = true) (h : ev P i E M K) : ∃ v, K v M ∧ ∀ (M' : VMem) (K' : Value → VMem → Prop), K' v M' → ev P i E M' K' := by
  suffices hd : ∃ F : (Value → Prop) → Prop, Det F ∧ ∀ M (K : Value → VMem → Prop), ev P i E M K = F fun v => K v M by
    obtain ⟨F, hd, he⟩ := hd
    rw [he] at h
    obtain ⟨v, hv, hF⟩ := hd _ h
    exact ⟨v, hv, fun M' K' hk => by rw [he]; exact hF _ hk⟩
  clear h
  cases i with
  | dead => exact ⟨fun _ => False, Det.no, fun _ _ => rfl⟩
  | mov x => exact ⟨fun K => xvOr E x K, Det.xvOr E x, fun _ _ => rfl⟩
  | nil x =>
    refine ⟨fun K => xvOr E x fun v => (match v with
      | .pointer (some ad) => K (.pointer (some ad))
      | .func f xs cs => (match f with
        | .func g => K (.func (.func g) xs cs)
        | .yield g => K (.func (.yield g) xs cs)
        | _ => False)
      | _ => False), Det.bind (Det.xvOr E x) fun v => ?_, fun _ _ => rfl⟩
    repeat' (first | exact Det.here _ | exact Det.no | apply Det.br | split)
  | pick c a b =>
    refine ⟨fun K => xvOr E c fun v => (match v with
      | .bool t => Br t (xvOr E a K) (xvOr E b K)
      | _ => False), Det.bind (Det.xvOr E c) fun v => ?_, fun _ _ => rfl⟩
    repeat' (first | exact Det.xvOr _ _ | exact Det.no | apply Det.br | split)
  | build zc ps =>
    refine ⟨fun K => (match partsO E ps with
      | some l => (match fillO zc l with
        | some cs => K (.agg ⟨cs⟩)
        | none => False)
      | none => False), ?_, fun _ _ => rfl⟩
    repeat' (first | exact Det.here _ | exact Det.no | apply Det.br | split)
  | bin op x y =>
    exact ⟨fun K => xvOr E x fun u => xvOr E y fun v => evBin op u v K, Det.bind (Det.xvOr E x) fun u => Det.bind (Det.xvOr E y) fun v => Det.evBin op u v, fun _ _ => rfl⟩
  | eqv c neg x y =>
    clear hp
    refine ⟨fun K => xvOr E x fun u => xvOr E y fun v => (match eqvO c u v with
      | some b => (match neg with
        | true => K (.bool (!b))
        | false => K (.bool b))
      | none => False), Det.bind (Det.xvOr E x) fun u => Det.bind (Det.xvOr E y) fun v => ?_, fun _ _ => rfl⟩
    repeat' (first | exact Det.here _ | exact Det.no | apply Det.br | split)
  | neg x =>
    refine ⟨fun K => xvOr E x fun v => (match v with
      | .int k n => Br (inK k (0 - n)) (K (.int k (0 - n))) (K (.int k (k.wrap (0 - n))))
      | _ => False), Det.bind (Det.xvOr E x) fun v => ?_, fun _ _ => rfl⟩
    repeat' (first | exact Det.here _ | exact Det.no | apply Det.br | split)
  | not x =>
    refine ⟨fun K => xvOr E x fun v => (match v with
      | .bool b => K (.bool (!b))
      | _ => False), Det.bind (Det.xvOr E x) fun v => ?_, fun _ _ => rfl⟩
    repeat' (first | exact Det.here _ | exact Det.no | apply Det.br | split)
  | conv k x =>
    refine ⟨fun K => xvOr E x fun v => (match v with
      | .int _ n => Br (inK k n) (K (.int k n)) (K (.int k (k.wrap n)))
      | _ => False), Det.bind (Det.xvOr E x) fun v => ?_, fun _ _ => rfl⟩
    repeat' (first | exact Det.here _ | exact Det.no | apply Det.br | split)
  | mkf f fst caps =>
    refine ⟨fun K => (match xvs E fst with
      | some u => (match xvs E caps with
        | some l => K (.func (.func f) ⟨u⟩ ⟨l⟩)
        | none => False)
      | none => False), ?_, fun _ _ => rfl⟩
    repeat' (first | exact Det.here _ | exact Det.no | apply Det.br | split)
  | sl sz x lo hi mx =>
    refine ⟨fun K => xvOr E x fun v => (match v with
      | .slice ad len cap => evBd E mx cap cap fun m => evHi E mx hi len m fun h => evBd E lo 0 h fun l => evSl sz lo ad m h l K
      | _ => False), Det.bind (Det.xvOr E x) fun v => ?_, fun _ _ => rfl⟩
    split
    · exact Det.bind (Det.evBd _ _ _ _) fun m => Det.bind (Det.evHi _ _ _ _ _) fun h => Det.bind (Det.evBd _ _ _ _) fun l => Det.evSl _ _ _ _ _ _
    · exact Det.no
  | fad off x =>
    refine ⟨fun K => xvOr E x fun v => (match v with
      | .pointer (some ⟨k, o, none⟩) => K (.pointer (some ⟨k, o + off, none⟩))
      | _ => False), Det.bind (Det.xvOr E x) fun v => ?_, fun _ _ => rfl⟩
    repeat' (first | exact Det.here _ | exact Det.no | apply Det.br | split)
  | fld agg off n x =>
    clear hp
    refine ⟨fun K => xvOr E x fun v => (match v with
      | .agg cs => (match agg with
        | true => K (.agg ⟨(cs.toList.drop off).take n⟩)
        | false => (match cs.toList[off]? with
          | some v => K v
          | none => False))
      | _ => False), Det.bind (Det.xvOr E x) fun v => ?_, fun _ _ => rfl⟩
    repeat' (first | exact Det.here _ | exact Det.no | apply Det.br | split)
  | ixa sz x i =>
    refine ⟨fun K => xvOr E x fun u => xvOr E i fun v => (match u, v with
      | .slice (some ⟨k, o, none⟩) len _, .int _ j => Br (decide (0 ≤ j)) (Br (decide (j < (len : Int))) (K (.pointer (some ⟨k, o + j.toNat * sz, none⟩))) False) False
      | _, _ => False), Det.bind (Det.xvOr E x) fun u => Det.bind (Det.xvOr E i) fun v => ?_, fun _ _ => rfl⟩
    repeat' (first | exact Det.here _ | exact Det.no | apply Det.br | split)
  | idx agg len sz x i =>
    clear hp
    refine ⟨fun K => xvOr E x fun u => xvOr E i fun v => (match u, v with
      | .agg cs, .int _ j => Br (decide (0 ≤ j)) (Br (decide (j < (len : Int))) (match agg with
          | true => K (.agg ⟨(cs.toList.drop (j.toNat * sz)).take sz⟩)
          | false => (match cs.toList[j.toNat * sz]? with
            | some v => K v
            | none => False)) False) False
      | _, _ => False), Det.bind (Det.xvOr E x) fun u => Det.bind (Det.xvOr E i) fun v => ?_, fun _ _ => rfl⟩
    repeat' (first | exact Det.here _ | exact Det.no | apply Det.br | split)
  | ext i x =>
    refine ⟨fun K => xvOr E x fun v => (match v with
      | .tuple vs => (match vs.toList[i]? with
        | some v => K v
        | none => False)
      | _ => False), Det.bind (Det.xvOr E x) fun v => ?_, fun _ _ => rfl⟩
    repeat' (first | exact Det.here _ | exact Det.no | apply Det.br | split)
  | len x =>
    refine ⟨fun K => xvOr E x fun v => (match v with
      | .slice _ n _ => K (.int .i64 n)
      | _ => False), Det.bind (Det.xvOr E x) fun v => ?_, fun _ _ => rfl⟩
    repeat' (first | exact Det.here _ | exact Det.no | apply Det.br | split)
  | slen x =>
    refine ⟨fun K => xvOr E x fun v => (match v with
      | .string s => K (.int .i64 s.size)
      | _ => False), Det.bind (Det.xvOr E x) fun v => ?_, fun _ _ => rfl⟩
    repeat' (first | exact Det.here _ | exact Det.no | apply Det.br | split)
  | mm mx x y =>
    clear hp
    refine ⟨fun K => xvOr E x fun u => xvOr E y fun v => (match u, v with
      | .int k a, .int _ b => (match mx with
        | true => K (.int k (if a < b then b else a))
        | false => K (.int k (if b < a then b else a)))
      | _, _ => False), Det.bind (Det.xvOr E x) fun u => Det.bind (Det.xvOr E y) fun v => ?_, fun _ _ => rfl⟩
    repeat' (first | exact Det.here _ | exact Det.no | apply Det.br | split)
  | _ => simp [pureI] at hp

theorem ld_det {agg : Bool} {n : Nat} {x : VX} (h : ev P (.ld agg n x) E M K) : ∃ (v : Value) (k : Nat) (p : VObj), K v M ∧ M[k]? = some p ∧ p.seen = true ∧
    ∀ (M' : VMem) (K' : Value → VMem → Prop), M'[k]? = some p → K' v M' → ev P (.ld agg n x) E M' K' := by
  obtain ⟨v, hv, h⟩ := xvOr_out h
  split at h
  · rename_i k o
    have hev : ∀ (M' : VMem) (K' : Value → VMem → Prop), ev P (.ld agg n x) E M' K' = evLd M' k o agg n fun v => K' v M' := by
      intro M' K'; simp [ev, xvOr, hv]
    unfold evLd at h
    split at h
    · rename_i cs T hk
      split at h
      · split at h
        · rename_i l hl
          exact ⟨_, k, _, h, hk, rfl, fun M' K' hk' hK => by rw [hev]; simp [evLd, hk', hl, hK]⟩
        · exact h.elim
      · split at h
        · rename_i u hu
          exact ⟨_, k, _, h, hk, rfl, fun M' K' hk' hK => by rw [hev]; simp [evLd, hk', hu, hK]⟩
        · exact h.elim
    · rename_i sz m get T hk
      split at h
      · obtain ⟨hb, h⟩ := Br.out h
        exact ⟨_, k, _, h, hk, rfl, fun M' K' hk' hK => by rw [hev]; simp only [evLd, hk']; exact Br.yes hb hK⟩
      · obtain ⟨hb, h⟩ := Br.out h
        exact ⟨_, k, _, h, hk, rfl, fun M' K' hk' hK => by rw [hev]; simp only [evLd, hk']; exact Br.yes hb hK⟩
    · rename_i m get hk
      split at h
      · obtain ⟨hb, h⟩ := Br.out h
        exact ⟨_, k, _, h, hk, rfl, fun M' K' hk' hK => by rw [hev]; simp only [evLd, hk']; exact Br.yes hb hK⟩
      · obtain ⟨hb, h⟩ := Br.out h
        exact ⟨_, k, _, h, hk, rfl, fun M' K' hk' hK => by rw [hev]; simp only [evLd, hk']; exact Br.yes hb hK⟩
    · exact h.elim
  · exact h.elim

theorem Det.evSrc (M : VMem) (sz : Nat) (x : Value) : ∀ (K : Nat → (Nat → Value) → Prop), evSrc M sz x K → ∃ n g, K n g ∧ ∀ K' : Nat → (Nat → Value) → Prop, K' n g → evSrc M sz x K' := by
  have hd : Det (fun K : Nat × (Nat → Value) → Prop => Vm.evSrc M sz x fun n g => K (n, g)) := by
    unfold Vm.evSrc
    repeat' (first | exact Det.here _ | exact Det.no | apply Det.br | apply Det.and | split)
  intro K h
  obtain ⟨a, ha, hF⟩ := hd (fun p => K p.1 p.2) h
  exact ⟨a.1, a.2, ha, fun K' hk => hF (fun p => K' p.1 p.2) hk⟩

/-- A write, an appending or a clearing: what comes of it is settled. -/
def setI : VI → Bool
  | .st _ _ _ | .app _ _ _ _ _ | .clr _ _ _ => true
  | _ => false
theorem set_det {i : VI} (hp : setI i = true) (h : ev P i E M K) : ∃ v M', K v M' ∧ ∀ (K' : Value → VMem → Prop), K' v M' → ev P i E M K' := by
  suffices hd : Det (fun K : Value × VMem → Prop => ev P i E M fun v M' => K (v, M')) by
    obtain ⟨a, ha, hF⟩ := hd (fun p => K p.1 p.2) h
    exact ⟨a.1, a.2, ha, fun K' hk => hF (fun p => K' p.1 p.2) hk⟩
  cases i with
  | st n x y =>
    simp only [ev]
    refine Det.bind (Det.xvOr E x) fun v => ?_
    split
    · refine Det.bind (Det.xvOr E y) fun u => ?_
      unfold evSt
      repeat' (first | exact Det.here _ | exact Det.no | apply Det.br | split)
    · exact Det.no
  | app T sz bs x y =>
    simp only [ev]
    refine Det.bind (Det.xvOr E x) fun u => Det.bind (Det.xvOr E y) fun v => ?_
    intro K h
    obtain ⟨m, g, hmg, hF⟩ := Det.evSrc M sz v _ h
    have hd : Det (fun K : Value × VMem → Prop => evApp M T sz bs u m g fun v M' => K (v, M')) := by
      unfold evApp
      repeat' (first | exact Det.here _ | exact Det.no | apply Det.br | split)
    obtain ⟨a, ha, hG⟩ := hd _ hmg
    exact ⟨a, ha, fun K' hk => hF _ (hG K' hk)⟩
  | clr sz zc x =>
    simp only [ev]
    refine Det.bind (Det.xvOr E x) fun v => ?_
    repeat' (first | exact Det.here _ | exact Det.no | apply Det.br | split)
  | _ => simp [setI] at hp
end

end Vm
end Go.Proofs.YtcafmkekkcbamaaGreat
