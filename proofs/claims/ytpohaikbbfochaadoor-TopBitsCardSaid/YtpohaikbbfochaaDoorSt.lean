/-
  Words for memory, further: a row that lies between two blocks; bits as a value; small laws in the form in which a search applies them. Over any program.
-/
import Derived.Test.YtpohaikbbfochaaDoorBitP
namespace Cad
open Go Go.RowKit Cad.Bit
set_option linter.unusedVariables false

/-- The slice reads as xs; its block is lo or younger, and older than hi. -/
def RowIn (k : IntKind) (w : World) (lo hi : Nat) (A : Option Addr) (n : Nat) (xs : List Int) : Prop :=
  xs.length = n ∧ (0 < n → ∃ b off, A = some ⟨b, off, none⟩ ∧ lo ≤ b ∧ b < hi ∧ ∀ j, j < n → w.cell? ⟨b, off + j, none⟩ = some (.int k (nth xs j)))

theorem lt_of_cell' {w : World} {b o : Nat} {v : Value} (h : w.cell? ⟨b, o, none⟩ = some v) : b < w.heap.size := by
  rcases Nat.lt_or_ge b w.heap.size with hlt | hge
  · exact hlt
  · unfold World.cell? at h; rw [Array.getElem?_eq_none hge] at h; cases h

section
variable {k : IntKind} {w w' : World} {lo hi : Nat} {A : Option Addr} {n : Nat} {xs : List Int}
theorem RowIn.len (h : RowIn k w lo hi A n xs) : xs.length = n := h.1
theorem RowIn.row (h : RowIn k w lo hi A n xs) : Row k w A n xs :=
  ⟨h.1, fun hn => by
    obtain ⟨b, off, e, _, _, hc⟩ := h.2 hn
    exact ⟨b, off, e, lt_of_cell' (hc 0 hn), hc⟩⟩
theorem Row.rowIn (h : Row k w A n xs) : RowIn k w 0 w.heap.size A n xs :=
  ⟨h.1, fun hn => by
    obtain ⟨b, off, e, hb, hc⟩ := h.2 hn
    exact ⟨b, off, e, Nat.zero_le _, hb, hc⟩⟩
theorem RowIn.nil : RowIn k w lo hi A 0 [] := ⟨rfl, fun h => absurd h (by omega)⟩
theorem RowIn.keep (h : RowIn k w lo hi A n xs) (hk : ∀ p : Addr, lo ≤ p.block → p.block < hi → p.block < w.heap.size → w'.cell? p = w.cell? p) : RowIn k w' lo hi A n xs :=
  ⟨h.1, fun hn => by
    obtain ⟨b, off, e, hb, hb2, hc⟩ := h.2 hn
    exact ⟨b, off, e, hb, hb2, fun j hj => (hk _ hb hb2 (lt_of_cell' (hc j hj))).trans (hc j hj)⟩⟩
theorem RowIn.mono {lo' hi' : Nat} (h : RowIn k w lo hi A n xs) (h1 : lo' ≤ lo) (h2 : hi ≤ hi') : RowIn k w lo' hi' A n xs :=
  ⟨h.1, fun hn => by
    obtain ⟨b, off, e, hb, hb2, hc⟩ := h.2 hn
    exact ⟨b, off, e, by omega, by omega, hc⟩⟩
theorem RowIn.below {B : Nat} (h : RowIn k w lo hi A n xs) (hb : Below B w w') (hB : hi ≤ B) : RowIn k w' lo hi A n xs := h.keep fun p _ h2 _ => hb.cell (by omega)
theorem RowIn.belowS (h : RowIn k w lo hi A n xs) (hb : Below w.heap.size w w') : RowIn k w' lo hi A n xs := h.keep fun p _ _ h3 => hb.cell h3
theorem RowIn.alloc (h : RowIn k w lo hi A n xs) (o : Obj) : RowIn k (w.alloc o) lo hi A n xs := h.keep fun p _ _ h3 => World.cell?_alloc_lt w o p h3
theorem RowIn.drewN (h : RowIn k w lo hi A n xs) (m : Nat) : RowIn k (w.drewN m) lo hi A n xs := h
theorem RowIn.drew (h : RowIn k w lo hi A n xs) : RowIn k w.drew lo hi A n xs := h
theorem RowIn.setCell (h : RowIn k w lo hi A n xs) {p : Addr} (hp : p.block < lo ∨ hi ≤ p.block) (u : Value) : RowIn k (w.setCell p u) lo hi A n xs :=
  h.keep fun q h1 h2 _ => World.cell?_setCell_other w p q u (fun e => by subst e; omega)
theorem Own.rowIn {base : Nat} {e : TypeId} {c : Nat} (h : Own w base e k A n c xs) : RowIn k w base w.heap.size A n xs :=
  ⟨h.len, fun hn => by
    obtain ⟨b, off, e, hb, hc⟩ := h.row.at hn
    exact ⟨b, off, e, (h.block b (by rw [e]; rfl)).1, hb, hc⟩⟩
end

/-- A value of the type of bits that reads as bits; its bytes lie between two blocks. -/
def BitsIn (w : World) (lo hi : Nat) (x : Value) (bs : List Bool) : Prop := ∃ A n c, x = .agg #[.slice A n c, .int .i64 (bs.length : Nat)] ∧ (n ≤ c ∧ c ≤ 9223372036854775807) ∧ RowIn .u8 w lo hi A n (pack bs)
theorem BitsIn.zero (w : World) (lo hi : Nat) : BitsIn w lo hi (.agg #[.slice none 0 0, .int .i64 0]) [] := ⟨none, 0, 0, rfl, ⟨Nat.le_refl _, Nat.zero_le _⟩, RowIn.nil⟩

section
variable {w w' : World} {g : Nat} {t : TypeId} {l l0 : List Value}
theorem Blk.new' {o : Obj} (hg : g = w.heap.size) (ho : o = .cells l.toArray t) : Blk (w.alloc o) g t l := by subst hg ho; exact Blk.new w t l
theorem Blk.set' {i : Nat} {u : Value} (h : Blk w g t l0) (hl : l0.set i u = l) : Blk (w.setCell ⟨g, i, none⟩ u) g t l := by rw [← hl]; exact h.set i u
theorem Blk.far' {b i : Nat} (h : Blk w g t l) (hp : g ≠ b) (u : Value) : Blk (w.setCell ⟨b, i, none⟩ u) g t l := h.far (p := ⟨b, i, none⟩) hp u
theorem RowIn.far' {k : IntKind} {lo hi : Nat} {A : Option Addr} {n : Nat} {xs : List Int} {b i : Nat} (h : RowIn k w lo hi A n xs) (hp : b < lo ∨ hi ≤ b) (u : Value) : RowIn k (w.setCell ⟨b, i, none⟩ u) lo hi A n xs := h.setCell (p := ⟨b, i, none⟩) hp u
theorem Below.far' {B : Nat} {a : World} {b i : Nat} (h : Below B a w) (hp : B ≤ b) (u : Value) : Below B a (w.setCell ⟨b, i, none⟩ u) := h.setCell (p := ⟨b, i, none⟩) hp u
/-- A call that changes nothing old: its frame joined to what was known. -/
theorem Below.after {B : Nat} {a : World} (h : Below B a w) (k : Below w.heap.size w w') (hB : B ≤ w.heap.size) : Below B a w' := h.trans (k.mono hB)
theorem Blk.after (h : Blk w g t l) (k : Below w.heap.size w w') : Blk w' g t l := h.below k h.lt
end

theorem Own.far' {w : World} {base : Nat} {e : TypeId} {k : IntKind} {A : Option Addr} {n c : Nat} {xs : List Int} {b i : Nat} (h : Own w base e k A n c xs) (hb : blockOf A ≠ some b) (u : Value) : Own (w.setCell ⟨b, i, none⟩ u) base e k A n c xs :=
  h.frm (S := fun j => j = b) ((Frm.refl (fun j => j = b) w).setCell (p := ⟨b, i, none⟩) (fun _ => rfl) u) (fun j e hj => hb (by rw [e, hj]))
theorem Frm.new' {S : Nat → Prop} {a w : World} {b i : Nat} (h : Frm S a w) (hb : a.heap.size ≤ b) (u : Value) : Frm S a (w.setCell ⟨b, i, none⟩ u) := h.setCell (p := ⟨b, i, none⟩) (fun hlt => absurd hlt (by show ¬ b < a.heap.size; omega)) u
theorem row_one' {k : IntKind} {w : World} {x : Int} {t : TypeId} {g : Nat} (hg : g = w.heap.size) : Row k (w.alloc (.cells #[.int k x] t)) (some ⟨g, 0, none⟩) 1 [x] := by subst hg; exact row_one k w x t
theorem own_empty' {w : World} {base : Nat} {e : TypeId} {k : IntKind} {g : Nat} (hg : g = w.heap.size) (hb : base ≤ w.heap.size) : Own (w.alloc (.cells #[] e)) base e k (some ⟨g, 0, none⟩) 0 0 [] := by subst hg; exact own_empty w e k hb
theorem size_drewN (w : World) (n : Nat) : (w.drewN n).heap.size = w.heap.size := rfl

/-- What a function that hands back bits and an error ends in. -/
def RetB (w : World) (l : List Bool) (er : Int) (e : Ending) (w' : World) : Prop :=
  ∃ A n c bs', e = .returned (.tuple #[.agg #[.slice A n c, .int .i64 (bs'.length : Nat)], .int .i64 er]) ∧ (n ≤ c ∧ c ≤ 9223372036854775807) ∧ RowIn .u8 w' w.heap.size w'.heap.size A n (pack bs') ∧ Hid (bs' = l) ∧ Below w.heap.size w w'
theorem RetB.of {w w' : World} {l : List Bool} {er : Int} {e : Ending} {x : Value} (he : e = .returned (.tuple #[x, .int .i64 er])) (hx : BitsIn w' w.heap.size w'.heap.size x l) (hb : Below w.heap.size w w') : RetB w l er e w' := by
  obtain ⟨A, n, c, rfl, hc, hr⟩ := hx
  exact ⟨A, n, c, l, he, hc, hr, Lib.hid rfl, hb⟩
/-- What a function that hands back bits ends in. -/
def RetB1 (w : World) (l : List Bool) (e : Ending) (w' : World) : Prop :=
  ∃ A n c bs', e = .returned (.agg #[.slice A n c, .int .i64 (bs'.length : Nat)]) ∧ (n ≤ c ∧ c ≤ 9223372036854775807) ∧ RowIn .u8 w' w.heap.size w'.heap.size A n (pack bs') ∧ Hid (bs' = l) ∧ Below w.heap.size w w'
theorem RetB1.of {w w' : World} {l : List Bool} {e : Ending} {x : Value} (he : e = .returned x) (hx : BitsIn w' w.heap.size w'.heap.size x l) (hb : Below w.heap.size w w') : RetB1 w l e w' := by
  obtain ⟨A, n, c, rfl, hc, hr⟩ := hx
  exact ⟨A, n, c, l, he, hc, hr, Lib.hid rfl, hb⟩

end Cad
