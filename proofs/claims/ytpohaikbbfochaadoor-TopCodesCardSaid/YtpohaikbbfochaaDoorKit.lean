/-
  Words for memory, over any program: a slice that reads as a list of integers; a block that is known whole; what is kept.
-/
import Derived.WalkKit
import Derived.Handy
import Derived.Deep.Draws
import Derived.Deep.LoopGhost
import Derived.Deep.QuietTactic
import Derived.BigQuiet
import Derived.StillTailTactics
import Derived.Deep.RegionHeld3
import Derived.Deep.RegionWith
import Derived.Deep.RegionLaw
import Derived.WalkSpells
import Derived.WalkSmall
import Derived.Lib.Hide
import Derived.Maps.AppendAt
namespace Cad
open Go Go.RowKit

/-- The j-th number of a list (0 where there is none): no rule of simp opens it. -/
def nth (xs : List Int) (j : Nat) : Int := xs.getD j 0

theorem nth_eq {xs : List Int} {j : Nat} (h : j < xs.length) : nth xs j = xs[j] := by
  unfold nth; rw [List.getD_eq_getElem?_getD, List.getElem?_eq_getElem h]; rfl
theorem nth_out {xs : List Int} {j : Nat} (h : xs.length ≤ j) : nth xs j = 0 := by
  unfold nth; rw [List.getD_eq_getElem?_getD, List.getElem?_eq_none h]; rfl
theorem list_ext {xs ys : List Int} (hl : xs.length = ys.length) (h : ∀ j, j < xs.length → nth xs j = nth ys j) : xs = ys := by
  apply List.ext_getElem hl
  intro j h1 h2
  rw [← nth_eq h1, ← nth_eq h2]; exact h j h1
theorem nth_append_left {xs ys : List Int} {j : Nat} (h : j < xs.length) : nth (xs ++ ys) j = nth xs j := by
  unfold nth; rw [List.getD_eq_getElem?_getD, List.getD_eq_getElem?_getD, List.getElem?_append_left h]
theorem nth_append_right {xs ys : List Int} {j : Nat} (h : xs.length ≤ j) : nth (xs ++ ys) j = nth ys (j - xs.length) := by
  unfold nth; rw [List.getD_eq_getElem?_getD, List.getD_eq_getElem?_getD, List.getElem?_append_right h]
theorem nth_take {xs : List Int} {n j : Nat} (h : j < n) : nth (xs.take n) j = nth xs j := by
  unfold nth; rw [List.getD_eq_getElem?_getD, List.getD_eq_getElem?_getD, List.getElem?_take_of_lt h]
theorem nth_drop {xs : List Int} {n j : Nat} : nth (xs.drop n) j = nth xs (n + j) := by
  unfold nth; rw [List.getD_eq_getElem?_getD, List.getD_eq_getElem?_getD, List.getElem?_drop]
theorem nth_set {xs : List Int} {i j : Nat} {v : Int} (hi : i < xs.length) : nth (xs.set i v) j = if i = j then v else nth xs j := by
  unfold nth
  rw [List.getD_eq_getElem?_getD, List.getD_eq_getElem?_getD, List.getElem?_set]
  by_cases h : i = j
  · subst h; simp [hi]
  · simp [h]
theorem nth_map_range {f : Nat → Int} {n j : Nat} (h : j < n) : nth ((List.range n).map f) j = f j := by
  unfold nth; rw [List.getD_eq_getElem?_getD]; simp [h]

/-- Every number of a list lies between two bounds. -/
def Within (lo hi : Int) (xs : List Int) : Prop := ∀ x ∈ xs, lo ≤ x ∧ x ≤ hi
theorem Within.nth {lo hi : Int} {xs : List Int} (h : Within lo hi xs) (h0 : lo ≤ 0) (h1 : 0 ≤ hi) (j : Nat) : lo ≤ nth xs j ∧ nth xs j ≤ hi := by
  by_cases hj : j < xs.length
  · rw [nth_eq hj]; exact h _ (List.getElem_mem hj)
  · rw [nth_out (by omega)]; exact ⟨h0, h1⟩
theorem Within.append {lo hi : Int} {xs ys : List Int} (h : Within lo hi xs) (k : Within lo hi ys) : Within lo hi (xs ++ ys) := fun x hx => by
  rcases List.mem_append.1 hx with hx | hx
  · exact h x hx
  · exact k x hx
theorem Within.take {lo hi : Int} {xs : List Int} (h : Within lo hi xs) (n : Nat) : Within lo hi (xs.take n) := fun x hx => h x (List.mem_of_mem_take hx)
theorem Within.drop {lo hi : Int} {xs : List Int} (h : Within lo hi xs) (n : Nat) : Within lo hi (xs.drop n) := fun x hx => h x (List.mem_of_mem_drop hx)

/-- The slice of address A and length n reads, in w, as the integers xs of kind k; it lies below the heap's end. -/
def Row (k : IntKind) (w : World) (A : Option Addr) (n : Nat) (xs : List Int) : Prop :=
  xs.length = n ∧ (0 < n → ∃ b off, A = some ⟨b, off, none⟩ ∧ b < w.heap.size ∧ ∀ j, j < n → w.cell? ⟨b, off + j, none⟩ = some (.int k (nth xs j)))

section
variable {k : IntKind} {w w' : World} {A : Option Addr} {n : Nat} {xs : List Int}
theorem Row.nil : Row k w A 0 [] := ⟨rfl, fun h => absurd h (by omega)⟩
theorem Row.len (h : Row k w A n xs) : xs.length = n := h.1
theorem Row.at (h : Row k w A n xs) (hn : 0 < n) : ∃ b off, A = some ⟨b, off, none⟩ ∧ b < w.heap.size ∧ ∀ j, j < n → w.cell? ⟨b, off + j, none⟩ = some (.int k (nth xs j)) := h.2 hn
theorem Row.keep (h : Row k w A n xs) (hs : w.heap.size ≤ w'.heap.size) (hk : ∀ p : Addr, p.block < w.heap.size → w'.cell? p = w.cell? p) : Row k w' A n xs :=
  ⟨h.1, fun hn => by
    obtain ⟨b, off, e, hb, hc⟩ := h.2 hn
    exact ⟨b, off, e, by omega, fun j hj => (hk _ hb).trans (hc j hj)⟩⟩
theorem Row.below (h : Row k w A n xs) (hb : Below w.heap.size w w') : Row k w' A n xs := h.keep hb.size fun _ hp => hb.cell hp
theorem Row.drew (h : Row k w A n xs) : Row k w.drew A n xs := h
theorem Row.drewN (h : Row k w A n xs) (m : Nat) : Row k (w.drewN m) A n xs := h
theorem Row.alloc (h : Row k w A n xs) (o : Obj) : Row k (w.alloc o) A n xs := h.keep (by simp) fun p hp => World.cell?_alloc_lt w o p hp
/-- A store into a block that the row does not lie in: a block that is new since an older world in which the row read. -/
theorem Row.later {B : Nat} {w0 : World} (h : Row k w0 A n xs) (hB : w0.heap.size ≤ B) (hb : Below B w0 w') : Row k w' A n xs := h.below (hb.mono hB)
/-- A part of a row. -/
theorem Row.part {c lo hi : Nat} (h : Row k w A n xs) (h1 : lo ≤ hi) (h2 : hi ≤ n) (hc : n ≤ c) :
    Row k w (if c = lo then A else A.map (·.add (lo * 1))) (hi - lo) ((xs.drop lo).take (hi - lo)) := by
  refine ⟨by rw [List.length_take, List.length_drop, h.1]; omega, fun hn => ?_⟩
  obtain ⟨b, off, rfl, hb, hcell⟩ := h.2 (by omega)
  rw [if_neg (by omega)]
  refine ⟨b, off + lo, ?_, hb, fun j hj => ?_⟩
  · simp only [Option.map_some, Addr.add, Nat.mul_one]
    by_cases h0 : lo = 0
    · subst h0; simp
    · simp [h0]
  · rw [nth_take hj, nth_drop, Nat.add_assoc]; exact hcell _ (by omega)
end

/-- A row, and its slice's capacity. -/
def RowC (k : IntKind) (w : World) (A : Option Addr) (n c : Nat) (xs : List Int) : Prop := Row k w A n xs ∧ n ≤ c ∧ c ≤ 9223372036854775807
theorem RowC.row {k : IntKind} {w : World} {A : Option Addr} {n c : Nat} {xs : List Int} (h : RowC k w A n c xs) : Row k w A n xs := h.1
theorem RowC.nil {k : IntKind} {w : World} {A : Option Addr} : RowC k w A 0 0 [] := ⟨Row.nil, Nat.le_refl _, Nat.zero_le _⟩
theorem RowC.below {k : IntKind} {w w' : World} {A : Option Addr} {n c : Nat} {xs : List Int} (h : RowC k w A n c xs) (hb : Below w.heap.size w w') : RowC k w' A n c xs := ⟨h.1.below hb, h.2⟩
theorem RowC.drewN {k : IntKind} {w : World} {A : Option Addr} {n c : Nat} {xs : List Int} (h : RowC k w A n c xs) (m : Nat) : RowC k (w.drewN m) A n c xs := ⟨h.1.drewN m, h.2⟩

/-- Block g is the cells l, of element type t, none of them frozen. -/
def Blk (w : World) (g : Nat) (t : TypeId) (l : List Value) : Prop := w.heap[g]? = some (.cells l.toArray t (0, 0))

section
variable {w w' : World} {g : Nat} {t : TypeId} {l : List Value}
theorem Blk.lt (h : Blk w g t l) : g < w.heap.size := by
  rcases Nat.lt_or_ge g w.heap.size with hlt | hge
  · exact hlt
  · unfold Blk at h; rw [Array.getElem?_eq_none hge] at h; cases h
theorem Blk.cell (h : Blk w g t l) (i : Nat) : w.cell? ⟨g, i, none⟩ = l[i]? := by
  unfold Blk at h
  simp [World.cell?, h]
theorem Blk.frozen (h : Blk w g t l) (i : Nat) : w.frozen? ⟨g, i, none⟩ = false := by
  unfold Blk at h
  simp [World.frozen?, h]
theorem Blk.new (w : World) (t : TypeId) (l : List Value) : Blk (w.alloc (.cells l.toArray t)) w.heap.size t l := by
  show (w.heap.push _)[w.heap.size]? = _
  simp
theorem Blk.drew (h : Blk w g t l) : Blk w.drew g t l := h
theorem Blk.drewN (h : Blk w g t l) (n : Nat) : Blk (w.drewN n) g t l := h
theorem Blk.alloc (h : Blk w g t l) (o : Obj) : Blk (w.alloc o) g t l := (Below.heap_alloc w o g h.lt).trans h
theorem Blk.set (h : Blk w g t l) (i : Nat) (u : Value) : Blk (w.setCell ⟨g, i, none⟩ u) g t (l.set i u) := by
  unfold Blk at h ⊢
  simp [World.setCell, Array.getElem?_modify, h]
theorem Blk.far (h : Blk w g t l) {p : Addr} (hp : g ≠ p.block) (u : Value) : Blk (w.setCell p u) g t l := (Below.heap_setCell w p u g hp).trans h
theorem Blk.below {B : Nat} (h : Blk w g t l) (hb : Below B w w') (hg : g < B) : Blk w' g t l := (hb.block g hg).trans h
theorem Blk.grown {row : Option Nat} (h : Blk w g t l) (hb : w.grownBy w' row) (hg : some g ≠ row) : Blk w' g t l := (hb.block g h.lt hg).trans h
end

theorem mid_get {k : IntKind} {pre post : List Value} {xs : List Int} {j : Nat} (hj : j < xs.length) : (pre ++ xs.map (Value.int k) ++ post)[pre.length + j]? = some (.int k (nth xs j)) := by
  rw [List.append_assoc, List.getElem?_append_right (by omega), Nat.add_sub_cancel_left, List.getElem?_append_left (by simpa using hj), List.getElem?_map, List.getElem?_eq_getElem hj, nth_eq hj]
  rfl
theorem mid_set {k : IntKind} {pre post : List Value} {xs : List Int} {j : Nat} (hj : j < xs.length) (v : Int) : (pre ++ xs.map (Value.int k) ++ post).set (pre.length + j) (.int k v) = pre ++ (xs.set j v).map (Value.int k) ++ post := by
  rw [List.append_assoc, List.set_append_right _ _ (by omega), Nat.add_sub_cancel_left, List.set_append_left _ _ (by simpa using hj), List.append_assoc, List.map_set]

/-- Only block g has turned, and what is new: 'w.grownBy w' (some g)': its steps. -/
theorem only_refl (w : World) (g : Option Nat) : w.grownBy w g := World.grownBy.refl w g
theorem only_drewN {a w : World} {row : Option Nat} (h : a.grownBy w row) (n : Nat) : a.grownBy (w.drewN n) row := ⟨h.os, h.tape, h.output, h.size, h.block⟩
theorem only_drew {a w : World} {row : Option Nat} (h : a.grownBy w row) : a.grownBy w.drew row := ⟨h.os, h.tape, h.output, h.size, h.block⟩
theorem only_alloc {a w : World} {row : Option Nat} (h : a.grownBy w row) (o : Obj) : a.grownBy (w.alloc o) row :=
  ⟨h.os, h.tape, h.output, Nat.le_trans h.size (by simp), fun i hi hne => (Below.heap_alloc w o i (Nat.lt_of_lt_of_le hi h.size)).trans (h.block i hi hne)⟩
theorem only_set {a w : World} {g : Nat} (h : a.grownBy w (some g)) (i : Nat) (u : Value) : a.grownBy (w.setCell ⟨g, i, none⟩ u) (some g) :=
  ⟨h.os, h.tape, h.output, by simpa [World.setCell] using h.size, fun j hj hne => (Below.heap_setCell w ⟨g, i, none⟩ u j (by rintro rfl; exact hne rfl)).trans (h.block j hj hne)⟩
theorem only_trans {a b c : World} {row : Option Nat} (h : a.grownBy b row) (k : b.grownBy c row) : a.grownBy c row :=
  ⟨k.os.trans h.os, k.tape.trans h.tape, k.output.trans h.output, Nat.le_trans h.size k.size, fun i hi hne => (k.block i (Nat.lt_of_lt_of_le hi h.size) hne).trans (h.block i hi hne)⟩
theorem only_of_below {a w : World} (h : Below a.heap.size a w) (row : Option Nat) : a.grownBy w row := ⟨h.os, h.tape, h.output, h.size, fun i hi _ => h.block i hi⟩
theorem below_only {B : Nat} {a w w' : World} {g : Nat} (h : Below B a w) (hg : w.grownBy w' (some g)) (hB : B ≤ w.heap.size) (hr : B ≤ g) : Below B a w' :=
  h.grown hg hB (fun k e => by injection e with e; omega)
theorem below_drewN {B : Nat} {a w : World} (h : Below B a w) (n : Nat) : Below B a (w.drewN n) := ⟨h.os, h.tape, h.output, h.size, h.block⟩

/-- A region that draws: its first n operations only read or call quietly, the others follow in one order. -/
theorem wp_still_tail {P : Program} {id : Nat} {Q : Exit → Act → World → Prop} {a : Act} {w : World} {l : List Oper} (n : Nat) (hm : P.follows .mixedOrders = true) (hB : Region.lexTailB .any l.toArray n = true)
    (h : wpStill P l.toArray w.drew (fun a' => wpList P l.toArray Q (l.drop n) a' w.drew) (l.take n) a) : (Code.region id l.toArray true).wp P Q a w := wp_region_still_tail n hm hB h
/-- A contract that leaves the world alone, as a quiet step wants it. -/
theorem still_of {P : Program} {f : FuncId} {args : Array Value} {w : World} {v : Value} (h : Calls P f args w fun e w' => e = .returned v ∧ w = w') : Calls P f args w fun e w' => e = .returned v ∧ w' = w :=
  h.mono fun _ _ hh => ⟨hh.1, hh.2.symm⟩

theorem ret_int {k : IntKind} {a b : Int} (h : a = b) : Ending.returned (.int k a) = .returned (.int k b) := by rw [h]
theorem ret_bool {a b : Bool} (h : a = b) : Ending.returned (.bool a) = .returned (.bool b) := by rw [h]

/-- All old blocks but those of S are as they were. -/
structure Frm (S : Nat → Prop) (w w' : World) : Prop where
  os : w'.os = w.os
  tape : w'.tape = w.tape
  output : w'.output = w.output
  size : w.heap.size ≤ w'.heap.size
  block : ∀ k, k < w.heap.size → ¬ S k → w'.heap[k]? = w.heap[k]?

section
variable {S T : Nat → Prop} {a b c w w' : World}
theorem Frm.refl (S : Nat → Prop) (w : World) : Frm S w w := ⟨rfl, rfl, rfl, Nat.le_refl _, fun _ _ _ => rfl⟩
theorem Frm.trans (h : Frm S a b) (k : Frm T b c) (hT : ∀ i, i < a.heap.size → T i → S i) : Frm S a c :=
  ⟨k.os.trans h.os, k.tape.trans h.tape, k.output.trans h.output, Nat.le_trans h.size k.size, fun i hi hs =>
    (k.block i (Nat.lt_of_lt_of_le hi h.size) (fun ht => hs (hT i hi ht))).trans (h.block i hi hs)⟩
theorem Frm.alloc (h : Frm S a w) (o : Obj) : Frm S a (w.alloc o) :=
  ⟨h.os, h.tape, h.output, Nat.le_trans h.size (by simp), fun i hi hs => (Below.heap_alloc w o i (Nat.lt_of_lt_of_le hi h.size)).trans (h.block i hi hs)⟩
theorem Frm.drew (h : Frm S a w) : Frm S a w.drew := ⟨h.os, h.tape, h.output, h.size, h.block⟩
theorem Frm.drewN (h : Frm S a w) (n : Nat) : Frm S a (w.drewN n) := ⟨h.os, h.tape, h.output, h.size, h.block⟩
theorem Frm.setCell (h : Frm S a w) {p : Addr} (hp : p.block < a.heap.size → S p.block) (u : Value) : Frm S a (w.setCell p u) :=
  ⟨h.os, h.tape, h.output, by simpa [World.setCell] using h.size, fun i hi hs =>
    (Below.heap_setCell w p u i (fun e => by subst e; exact hs (hp hi))).trans (h.block i hi hs)⟩
theorem Frm.grown {row : Option Nat} (h : Frm S a w) (hg : w.grownBy w' row) (hr : ∀ k, row = some k → k < a.heap.size → S k) : Frm S a w' :=
  ⟨hg.os.trans h.os, hg.tape.trans h.tape, hg.output.trans h.output, Nat.le_trans h.size hg.size, fun i hi hs =>
    (hg.block i (Nat.lt_of_lt_of_le hi h.size) (fun e => hs (hr i e.symm hi))).trans (h.block i hi hs)⟩
theorem Frm.after (h : Frm S a w) (hb : Below w.heap.size w w') : Frm S a w' :=
  ⟨hb.os.trans h.os, hb.tape.trans h.tape, hb.output.trans h.output, Nat.le_trans h.size hb.size, fun i hi hs =>
    (hb.block i (Nat.lt_of_lt_of_le hi h.size)).trans (h.block i hi hs)⟩
theorem Frm.below {B : Nat} (h : Frm S w w') (hB : B ≤ w.heap.size) (hS : ∀ k, k < B → ¬ S k) : Below B w w' :=
  ⟨h.os, h.tape, h.output, h.size, fun k hk => h.block k (Nat.lt_of_lt_of_le hk hB) (hS k hk)⟩
theorem Frm.of_below (h : Below w.heap.size w w') (S : Nat → Prop) : Frm S w w' := ⟨h.os, h.tape, h.output, h.size, fun k hk _ => h.block k hk⟩
theorem Frm.cell (h : Frm S w w') {p : Addr} (hp : p.block < w.heap.size) (hs : ¬ S p.block) : w'.cell? p = w.cell? p := World.cell?_of_block (h.block _ hp hs)
theorem Frm.frozen (h : Frm S w w') {p : Addr} (hp : p.block < w.heap.size) (hs : ¬ S p.block) : w'.frozen? p = w.frozen? p := World.frozen?_of_block (h.block _ hp hs)
end
theorem Blk.frm {S : Nat → Prop} {w w' : World} {g : Nat} {t : TypeId} {l : List Value} (h : Blk w g t l) (hf : Frm S w w') (hs : ¬ S g) : Blk w' g t l := (hf.block g h.lt hs).trans h
theorem Row.frm {S : Nat → Prop} {k : IntKind} {w w' : World} {A : Option Addr} {n : Nat} {xs : List Int} (h : Row k w A n xs) (hf : Frm S w w') (hs : ∀ b, A.map (·.block) = some b → ¬ S b) : Row k w' A n xs :=
  ⟨h.1, fun hn => by
    obtain ⟨b, off, e, hb, hc⟩ := h.2 hn
    exact ⟨b, off, e, Nat.lt_of_lt_of_le hb hf.size, fun j hj => (hf.cell (p := ⟨b, off + j, none⟩) hb (hs b (by rw [e]; rfl))).trans (hc j hj)⟩⟩

/-- What the append laws ask of an element type: its slice type's number t, its own number e, its kind, its bytes. -/
structure Elem (P : Program) (t e : TypeId) (k : IntKind) (by_ : Nat) : Prop where
  slice : P.underlying t = some (.slice e)
  elem : P.underlying e = some (.int k)
  info : (P.info? e).map (fun i => (i.zero, i.size, i.bytes)) = some (some (.int k 0), 1, by_)
  small : by_ ≤ 8

/-- A slice of the call's own (its block is 'base' or younger), which reads as xs. -/
def Own (w : World) (base : Nat) (e : TypeId) (k : IntKind) (A : Option Addr) (n c : Nat) (xs : List Int) : Prop :=
  w.ownsRow base e 1 (.slice A n c) n (xs.map (Value.int k))

/-- The block of an address. -/
def blockOf (A : Option Addr) : Option Nat := A.map (·.block)
theorem ownBlock_slice (A : Option Addr) (n c : Nat) : (Value.slice A n c).ownBlock = blockOf A := by cases A <;> rfl

theorem map_getElem? {k : IntKind} {xs : List Int} {j : Nat} {u : Value} (h : (xs.map (Value.int k))[j]? = some u) : j < xs.length ∧ u = .int k (nth xs j) := by
  rw [List.getElem?_map] at h
  rcases Nat.lt_or_ge j xs.length with hj | hj
  · rw [List.getElem?_eq_getElem hj] at h
    refine ⟨hj, ?_⟩
    rw [nth_eq hj]; simpa using h.symm
  · rw [List.getElem?_eq_none hj] at h; cases h
theorem getElem?_map_nth {k : IntKind} {xs : List Int} {j : Nat} (hj : j < xs.length) : (xs.map (Value.int k))[j]? = some (.int k (nth xs j)) := by
  rw [List.getElem?_map, List.getElem?_eq_getElem hj, nth_eq hj]; rfl

section
variable {w w' : World} {base : Nat} {e : TypeId} {k : IntKind} {A : Option Addr} {n c : Nat} {xs : List Int}
theorem Own.nil (w : World) (base : Nat) (e : TypeId) (k : IntKind) : Own w base e k none 0 0 [] := World.ownsRow_nil w base e 1
theorem Own.len (h : Own w base e k A n c xs) : xs.length = n := by have := h.1; simpa using this
theorem Own.cases (h : Own w base e k A n c xs) : (A = none ∧ n = 0 ∧ c = 0 ∧ xs = []) ∨ ∃ g rest, A = some ⟨g, 0, none⟩ ∧ base ≤ g ∧ n ≤ c ∧ c ≤ maxLen ∧ n + rest.length = c ∧ Blk w g e (xs.map (Value.int k) ++ rest) := by
  have hl := h.len
  rcases h.2 with ⟨hv, h0⟩ | ⟨g, cap, cur, hv, hb, hh, hnc, hcm, hs, ht⟩
  · injection hv with h1 h2 h3
    exact .inl ⟨h1, h0, h3, List.eq_nil_of_length_eq_zero (by omega)⟩
  · injection hv with h1 h2 h3
    subst h1 h3
    refine .inr ⟨g, cur.toList.drop n, rfl, hb, hnc, hcm, ?_, ?_⟩
    · rw [List.length_drop, Array.length_toList]; omega
    · unfold Blk
      rw [hh]
      have : xs.map (Value.int k) ++ cur.toList.drop n = cur.toList := by
        rw [← ht, Nat.mul_one, List.take_append_drop]
      rw [this]
theorem Own.mk {g : Nat} {rest : List Value} (hb : base ≤ g) (hn : xs.length = n) (hc : n + rest.length = c) (hm : c ≤ maxLen) (hk : Blk w g e (xs.map (Value.int k) ++ rest)) : Own w base e k (some ⟨g, 0, none⟩) n c xs := by
  refine ⟨by simpa using hn, .inr ⟨g, c, (xs.map (Value.int k) ++ rest).toArray, rfl, hb, hk, by omega, hm, by simp; omega, ?_⟩⟩
  subst hn
  rw [show (xs.map (Value.int k) ++ rest).toArray.toList = xs.map (Value.int k) ++ rest from rfl, Nat.mul_one, List.take_left' (by simp)]
theorem Own.row (h : Own w base e k A n c xs) : Row k w A n xs := by
  refine ⟨h.len, fun hn => ?_⟩
  have hl := h.len
  rcases h.cases with ⟨_, h0, _⟩ | ⟨g, rest, rfl, _, _, _, _, hk⟩
  · omega
  · refine ⟨g, 0, rfl, hk.lt, fun j hj => ?_⟩
    rw [Nat.zero_add, hk.cell, List.getElem?_append_left (by simp; omega), getElem?_map_nth (by omega)]
theorem Own.cap (h : Own w base e k A n c xs) : n ≤ c ∧ c ≤ maxLen := by
  rcases h.cases with ⟨_, h0, h1, _⟩ | ⟨g, rest, _, _, h1, h2, _⟩
  · subst h0 h1; exact ⟨Nat.le_refl _, Nat.zero_le _⟩
  · exact ⟨h1, h2⟩
theorem Own.rowC (h : Own w base e k A n c xs) : RowC k w A n c xs := ⟨h.row, h.cap.1, Nat.le_trans h.cap.2 (by simp only [maxLen]; omega)⟩
theorem Own.block (h : Own w base e k A n c xs) : ∀ g, blockOf A = some g → base ≤ g ∧ g < w.heap.size := by
  intro g hg
  have := h.lt g (by rw [ownBlock_slice]; exact hg)
  exact this
theorem Own.grown {row : Option Nat} (h : Own w base e k A n c xs) (hg : w.grownBy w' row) (hne : ∀ g, row = some g → blockOf A ≠ some g) : Own w' base e k A n c xs := by
  refine World.ownsRow.kept h hg ?_
  rw [ownBlock_slice]
  cases row with
  | none => cases A with
    | none => exact .inl rfl
    | some a => exact .inr (by simp [blockOf])
  | some g => exact .inr (hne g rfl)
theorem Own.below {B : Nat} (h : Own w base e k A n c xs) (hb : Below B w w') (hB : w.heap.size ≤ B) : Own w' base e k A n c xs :=
  World.ownsRow.kept h (only_of_below (hb.mono hB) none) (by cases A with
    | none => exact .inl rfl
    | some a => exact .inr (by simp [Value.ownBlock]))
theorem Own.frm {S : Nat → Prop} (h : Own w base e k A n c xs) (hf : Frm S w w') (hs : ∀ g, blockOf A = some g → ¬ S g) : Own w' base e k A n c xs := by
  rcases h.cases with ⟨rfl, rfl, rfl, rfl⟩ | ⟨g, rest, rfl, hb, hnc, hcm, hr, hk⟩
  · exact Own.nil _ _ _ _
  · exact Own.mk hb h.len hr hcm (hk.frm hf (hs g rfl))
theorem Own.ne_blk {g : Nat} {t : TypeId} {l : List Value} (h : Own w base e k A n c xs) (hg : Blk w g t l) (hne : e ≠ t) : blockOf A ≠ some g := by
  rcases h.cases with ⟨rfl, _⟩ | ⟨g', rest, rfl, _, _, _, _, hk⟩
  · intro h; cases h
  · intro he
    have : g' = g := by simpa [blockOf] using he
    subst this
    unfold Blk at hk hg
    rw [hk] at hg
    injection hg with hg
    injection hg with _ ht
    exact hne ht
theorem Own.drewN (h : Own w base e k A n c xs) (m : Nat) : Own (w.drewN m) base e k A n c xs := h
theorem Own.drew (h : Own w base e k A n c xs) : Own w.drew base e k A n c xs := h
theorem Own.alloc (h : Own w base e k A n c xs) (o : Obj) : Own (w.alloc o) base e k A n c xs := World.ownsRow.alloc h o
theorem Own.mono {base' : Nat} (h : Own w base e k A n c xs) (hb : base' ≤ base) : Own w base' e k A n c xs := by
  refine ⟨h.1, ?_⟩
  rcases h.2 with h0 | ⟨g, cap, cur, hv, hb', r⟩
  · exact .inl h0
  · exact .inr ⟨g, cap, cur, hv, by omega, r⟩
end

section
variable {P : Program} (w : World)

theorem run_app {t e : TypeId} {k : IntKind} {by_ : Nat} (E : Elem P t e k by_) (ty : TypeId) (base : Nat) (A : Option Addr) (n c : Nat) (xs : List Int) (hown : Own w base e k A n c xs)
    (B : Option Addr) (m d : Nat) (ys : List Int) (hr : Row k w B m ys) (hsm : n + m ≤ 1000000) (hbase : base ≤ w.heap.size) :
    ∃ A' c' w', (Builtin.append_ #[t, t] ty #[.slice A n c, .slice B m d]).run P w = .ok (.slice A' (n + m) c') w' ∧ Own w' base e k A' (n + m) c' (xs ++ ys) ∧ w.grownBy w' (blockOf A) ∧
      (blockOf A' = blockOf A ∨ blockOf A' = some w.heap.size) := by
  obtain ⟨i, hi, hz, hs, hby⟩ := info_parts E.info
  have hsm' : (n + m) * by_ ≤ 140737488355328 := by
    have := E.small
    calc (n + m) * by_ ≤ 1000000 * 8 := Nat.mul_le_mul hsm this
      _ ≤ 140737488355328 := by omega
  have key : ∃ v' w', (Builtin.append_ #[t, t] ty #[.slice A n c, .slice B m d]).run P w = .ok v' w' ∧ w'.ownsRow base e 1 v' (n + m) (xs.map (Value.int k) ++ ys.map (Value.int k)) ∧ w.grownBy w' (Value.slice A n c).ownBlock ∧
      (v'.ownBlock = (Value.slice A n c).ownBlock ∨ v'.ownBlock = some w.heap.size) := by
    by_cases hB : B = none
    · subst hB
      have hm : m = 0 := by
        rcases Nat.eq_zero_or_pos m with h0 | h0
        · exact h0
        · obtain ⟨_, _, h, _⟩ := hr.2 h0
          cases h
      subst hm
      have hy : ys = [] := List.eq_nil_of_length_eq_zero hr.1
      subst hy
      refine ⟨.slice A n c, w, ?_, by simpa [Own] using hown, World.grownBy.refl w _, .inl rfl⟩
      rcases hown.2 with ⟨h0, _⟩ | ⟨g, cap, cur, hv, _, _, hnc, _⟩
      · injection h0 with h1 h2 h3
        subst h1 h2 h3
        simp [Builtin.append_, run_underlying E.slice, Go.sizeOf, typeInfo, hi, Builtin.lenOf, Builtin.firstCells]
      · injection hv with h1 h2 h3
        subst h1 h3
        simp [Builtin.append_, run_underlying E.slice, Go.sizeOf, typeInfo, hi, Builtin.lenOf, Builtin.firstCells, hnc, storeCells]
    · obtain ⟨ad, rfl⟩ := Option.ne_none_iff_exists'.1 hB
      obtain ⟨v', w', hrun, h2, h3, _, h5⟩ := run_append_own_at (P := P) w base t ty e i (.int k 0) 1 by_ E.slice hi hz hs hby rfl (by omega) (.slice A n c) n (xs.map (Value.int k)) hown ad m d (ys.map (Value.int k))
        (by simpa using hr.1) (fun j u hu => by
          obtain ⟨hj, rfl⟩ := map_getElem? hu
          obtain ⟨b, off, hb, _, hc⟩ := hr.2 (by have := hr.1; omega)
          injection hb with hb
          subst hb
          have := hc j (by have := hr.1; omega)
          rw [← this]
          congr 1
          unfold Addr.add
          by_cases h0 : j = 0 <;> simp [h0]) (fun u hu => by
          obtain ⟨x, _, rfl⟩ := List.mem_map.1 hu
          rfl) (by simp only [maxLen]; omega) hsm' hbase
      exact ⟨v', w', hrun, h2, h3, h5⟩
  obtain ⟨v', w', hrun, h2, h3, h4⟩ := key
  have hform : ∃ A' c', v' = .slice A' (n + m) c' := by
    rcases h2.2 with ⟨rfl, h0⟩ | ⟨g, cap, cur, rfl, _⟩
    · exact ⟨none, 0, by rw [h0]⟩
    · exact ⟨_, cap, rfl⟩
  obtain ⟨A', c', rfl⟩ := hform
  rw [ownBlock_slice, ownBlock_slice] at h4
  rw [ownBlock_slice] at h3
  exact ⟨A', c', w', hrun, by unfold Own; rw [List.map_append]; exact h2, h3, h4⟩

theorem wp_app {o : Oper} {a : Act} {K : Act → World → Prop} {Q : Exit → Act → World → Prop} {t e : TypeId} {k : IntKind} {by_ : Nat} (E : Elem P t e k by_) (s x : Operand)
    (ho : o.op = .call { callee := .builtin .append, args := #[s, x], argTypes := #[t, t] })
    (base : Nat) (A : Option Addr) (n c : Nat) (xs : List Int) (hs : a.eval s = .slice A n c) (hown : Own w base e k A n c xs)
    (B : Option Addr) (m d : Nat) (ys : List Int) (hx : a.eval x = .slice B m d) (hr : Row k w B m ys) (hsm : n + m ≤ 1000000) (hbase : base ≤ w.heap.size)
    (h : ∀ A' c' w', Own w' base e k A' (n + m) c' (xs ++ ys) → w.grownBy w' (blockOf A) → (blockOf A' = blockOf A ∨ blockOf A' = some w.heap.size) → K (a.put o.dst (.slice A' (n + m) c')) w') : o.wp P a w K Q := by
  obtain ⟨A', c', w', hrun, h2, h3, h4⟩ := run_app w E o.type base A n c xs hown B m d ys hr hsm hbase
  unfold Oper.wp execOp
  simp only [ho, resolve, invoke, builtin, Sem.run_bind, Sem.run_pure, Result.andThen_ok, List.map_toArray, List.map_cons, List.map_nil, hs, hx, hrun]
  exact h A' c' w' h2 h3 h4

/-- 'append(s, x...)': s is the call's own, x whatever row. -/
theorem wpList_app {ops : Array Oper} {rest : List Oper} {o : Oper} {a : Act} {Q : Exit → Act → World → Prop} {t e : TypeId} {k : IntKind} {by_ : Nat} (E : Elem P t e k by_) (hgd : o.guard = none) (s x : Operand)
    (ho : o.op = .call { callee := .builtin .append, args := #[s, x], argTypes := #[t, t] })
    (base : Nat) (A : Option Addr) (n c : Nat) (xs : List Int) (hs : a.eval s = .slice A n c) (hown : Own w base e k A n c xs)
    (B : Option Addr) (m d : Nat) (ys : List Int) (hx : a.eval x = .slice B m d) (hr : Row k w B m ys) (hsm : n + m ≤ 1000000) (hbase : base ≤ w.heap.size)
    (h : ∀ A' c' w', Own w' base e k A' (n + m) c' (xs ++ ys) → w.grownBy w' (blockOf A) → (blockOf A' = blockOf A ∨ blockOf A' = some w.heap.size) → wpList P ops Q rest (a.put o.dst (.slice A' (n + m) c')) w') :
    wpList P ops Q (o :: rest) a w :=
  wpList_plain hgd fun _ hK => wp_app w E s x ho base A n c xs hs hown B m d ys hx hr hsm hbase fun A' c' w' h2 h3 h4 => hK _ _ (h A' c' w' h2 h3 h4)
end

/-- The same as one step of a region that draws. -/
theorem step_app {P : Program} (w : World) {ops : Array Oper} {o : Oper} {a : Act} {K : Act → World → Prop} {Q : Exit → Act → World → Prop} {F : Prop} {t e : TypeId} {k : IntKind} {by_ : Nat} (E : Elem P t e k by_) (hgd : o.guard = none) (s x : Operand)
    (ho : o.op = .call { callee := .builtin .append, args := #[s, x], argTypes := #[t, t] })
    (base : Nat) (A : Option Addr) (n c : Nat) (xs : List Int) (hs : a.eval s = .slice A n c) (hown : Own w base e k A n c xs)
    (B : Option Addr) (m d : Nat) (ys : List Int) (hx : a.eval x = .slice B m d) (hr : Row k w B m ys) (hsm : n + m ≤ 1000000) (hbase : base ≤ w.heap.size)
    (h : ∀ A' c' w', Own w' base e k A' (n + m) c' (xs ++ ys) → w.grownBy w' (blockOf A) → (blockOf A' = blockOf A ∨ blockOf A' = some w.heap.size) → K (a.put o.dst (.slice A' (n + m) c')) w') :
    if Region.wanted o (yielded ops a.tmps) = true then Oper.wp P o a w K Q else F := by
  have hw : Region.wanted o (yielded ops a.tmps) = true := by simp [Region.wanted, hgd]
  rw [if_pos hw]
  exact wp_app w E s x ho base A n c xs hs hown B m d ys hx hr hsm hbase h

/-- Below 'base' nothing has turned when an own row has grown. -/
theorem below_of_own {base : Nat} {w w' : World} {e : TypeId} {k : IntKind} {A : Option Addr} {n c : Nat} {xs : List Int} (hown : Own w base e k A n c xs) (hg : w.grownBy w' (blockOf A)) (hb : base ≤ w.heap.size) : Below base w w' :=
  (Below.refl base w).grown hg hb (fun g e => (hown.block g e).1)

/-- The cells that 'make' makes. -/
def zeros (n : Nat) : List Int := List.replicate n 0
def zeroRow (k : IntKind) (n : Nat) : Array Value := ((zeros n).map (Value.int k)).toArray
theorem zeros_len (n : Nat) : (zeros n).length = n := by simp [zeros]
theorem nth_zeros (n j : Nat) : nth (zeros n) j = 0 := by
  unfold nth zeros
  rw [List.getD_eq_getElem?_getD, List.getElem?_replicate]
  split <;> rfl
theorem run_mk {P : Program} {t e : TypeId} {k : IntKind} {by_ : Nat} (E : Elem P t e k by_) (n : Nat) (hn : n ≤ 1000000) (kl kc : IntKind) (w : World) :
    (Instr.makeSlice t (.int kl (n : Int)) (.int kc (n : Int))).run P w = .ok (.slice (some ⟨w.heap.size, 0, none⟩) n n) (w.alloc (.cells (zeroRow k n) e)) := by
  obtain ⟨i, hi, hz, hs, hby⟩ := info_parts E.info
  have h1 : (i.bytes : Int) * (n : Int) ≤ 281474976710656 := by
    have h8 := E.small
    rw [← hby] at h8
    have : i.bytes * n ≤ 8 * 1000000 := Nat.mul_le_mul h8 hn
    have h' : ((i.bytes * n : Nat) : Int) ≤ 281474976710656 := by omega
    rwa [Int.natCast_mul] at h'
  have hr := run_make (P := P) w t e i (.int k 0) E.slice hi hz kl kc n n (by omega) (by omega) h1 (by omega)
  simp only [Int.toNat_natCast] at hr
  rw [hr, hs, Nat.mul_one]
  have : madeCells (Value.int k 0).cells n = zeroRow k n := by
    unfold madeCells zeroRow zeros
    apply Array.ext
    · simp
    · intro i h1 h2
      simp [Value.cells, Nat.mod_one]
  rw [this]
theorem blk_made (w : World) (k : IntKind) (n : Nat) (e : TypeId) : Blk (w.alloc (.cells (zeroRow k n) e)) w.heap.size e ((zeros n).map (Value.int k)) := Blk.new w e _

/-- The empty slice that is not nil: 'S{}'. -/
theorem own_empty (w : World) {base : Nat} (e : TypeId) (k : IntKind) (hb : base ≤ w.heap.size) : Own (w.alloc (.cells #[] e)) base e k (some ⟨w.heap.size, 0, none⟩) 0 0 [] :=
  Own.mk (rest := []) hb rfl rfl (Nat.zero_le _) (Blk.new w e [])

/-- A slice that is written out. -/
theorem row_new (k : IntKind) (w : World) (xs : List Int) (t : TypeId) : Row k (w.alloc (.cells (xs.map (Value.int k)).toArray t)) (some ⟨w.heap.size, 0, none⟩) xs.length xs :=
  ⟨rfl, fun _ => ⟨w.heap.size, 0, rfl, by simp, fun j hj => by
    rw [Nat.zero_add, (Blk.new w t (xs.map (Value.int k))).cell, getElem?_map_nth hj]⟩⟩

theorem row_fst (k : IntKind) (w : World) (xs : List Int) (t : TypeId) (o : Obj) : Row k ((w.alloc (.cells (xs.map (Value.int k)).toArray t)).alloc o) (some ⟨w.heap.size, 0, none⟩) xs.length xs := (row_new k w xs t).alloc o
theorem row_snd (k : IntKind) (w : World) (xs : List Int) (t : TypeId) (o : Obj) : Row k ((w.alloc o).alloc (.cells (xs.map (Value.int k)).toArray t)) (some ⟨w.heap.size + 1, 0, none⟩) xs.length xs := by
  have h := row_new k (w.alloc o) xs t
  rwa [World.size_alloc] at h

/-- The one-element slice that 'append(s, x)' makes of x. -/
theorem row_one (k : IntKind) (w : World) (x : Int) (t : TypeId) : Row k (w.alloc (.cells #[.int k x] t)) (some ⟨w.heap.size, 0, none⟩) 1 [x] :=
  ⟨rfl, fun _ => ⟨w.heap.size, 0, rfl, by simp, fun j hj => by
    obtain rfl : j = 0 := by omega
    simp [nth]⟩⟩

end Cad
