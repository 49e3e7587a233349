/-
  Contracts of the reference of chapter 2: Join, Cut, Of, Align.
-/
import Derived.Test.YtncmnfnminjchaaRefD
namespace Go.Proofs.Ytncmnfnminjchaa
open Go.RowKit Cad Cad.Bit
set_option linter.unusedVariables false
set_option linter.unusedSimpArgs false


set_option maxHeartbeats 400000 in
theorem rof_ret (A : Option Addr) (n c : Nat) (bytes : List Int) (w : World) (ha : Row .u8 w A n bytes) (hb : Within 0 255 bytes) (hc : n ≤ c ∧ c ≤ 9223372036854775807) :
    Calls Try.prog 28 #[.slice A n c] w (RetB w (ofR bytes).1 (ofR bytes).2) := by
  have hx := ha.len
  by_cases h1 : 41250 < n
  · have HR : Hid (ofR bytes = ([], 4)) := by unfold ofR; rw [if_pos (by omega)]; rfl
    clear hx
    go_enter Try.func28, Try.ntmps28
    go_wp2
    refine bodyPost_ret (v := .tuple #[.agg #[.slice none 0 0, .int .i64 0], .int .i64 4]) (by simp [results, Try.results28, go_sem]) rfl ?_
    rw [HR.out]
    refine RetB.of rfl (BitsIn.zero _ _ _) ?_
    repeat' (first | (with_reducible assumption) | (with_reducible exact Below.refl _ _) | (with_reducible refine Blk.drewN ?_ _) | (with_reducible refine RowIn.drewN ?_ _) | (with_reducible refine below_drewN ?_ _) | (with_reducible refine Blk.drew ?_) | (with_reducible refine RowIn.drew ?_) | (with_reducible refine Below.drew ?_) | (with_reducible refine Blk.new' ?_ ?_ <;> first | (with_reducible rfl) | (simp; done)) | (with_reducible refine Blk.alloc ?_ _) | (with_reducible refine RowIn.alloc ?_ _) | (with_reducible refine Below.alloc ?_ ?_ _) | (with_reducible apply Blk.set') | (with_reducible refine Blk.far' ?_ ?_ _) | (with_reducible refine RowIn.far' ?_ ?_ _) | (with_reducible refine Below.far' ?_ ?_ _) | rfl | omega | go_size)
  · have HR : Hid (ofR bytes = (unpack bytes, 0)) := by unfold ofR; rw [if_neg (by omega)]; rfl
    have HX := Lib.hid hx
    clear hx
    go_enter Try.func28, Try.ntmps28
    go_wp2_with (at_builtin; refine wpList_app _ u8E rfl _ _ rfl (w.heap.size + 1) _ _ _ [] rfl (by exact own_empty' (by simp) (by simp)) _ _ _ bytes rfl (by exact ((ha.alloc _).alloc _)) (by omega) (by simp) ?_)
    intro B1 d1 w1 own1 hg1 hat1
    have b1 : Below w.heap.size w w1 := by
      refine Below.grown ?_ hg1 ?_ (fun g e => by simp [blockOf] at e; omega)
      all_goals repeat' (first | (with_reducible assumption) | (with_reducible exact Below.refl _ _) | (with_reducible refine Blk.drewN ?_ _) | (with_reducible refine RowIn.drewN ?_ _) | (with_reducible refine below_drewN ?_ _) | (with_reducible refine Blk.drew ?_) | (with_reducible refine RowIn.drew ?_) | (with_reducible refine Below.drew ?_) | (with_reducible refine Blk.new' ?_ ?_ <;> first | (with_reducible rfl) | (simp; done)) | (with_reducible refine Blk.alloc ?_ _) | (with_reducible refine RowIn.alloc ?_ _) | (with_reducible refine Below.alloc ?_ ?_ _) | (with_reducible apply Blk.set') | (with_reducible refine Blk.far' ?_ ?_ _) | (with_reducible refine RowIn.far' ?_ ?_ _) | (with_reducible refine Below.far' ?_ ?_ _) | rfl | omega | go_size)
    have zr : Blk w1 w.heap.size 25 [.slice none 0 0, .int .i64 0] := by
      refine Blk.grown ?_ hg1 (fun e => by simp [blockOf] at e)
      repeat' (first | (with_reducible assumption) | (with_reducible exact Below.refl _ _) | (with_reducible refine Blk.drewN ?_ _) | (with_reducible refine RowIn.drewN ?_ _) | (with_reducible refine below_drewN ?_ _) | (with_reducible refine Blk.drew ?_) | (with_reducible refine RowIn.drew ?_) | (with_reducible refine Below.drew ?_) | (with_reducible refine Blk.new' ?_ ?_ <;> first | (with_reducible rfl) | (simp; done)) | (with_reducible refine Blk.alloc ?_ _) | (with_reducible refine RowIn.alloc ?_ _) | (with_reducible refine Below.alloc ?_ ?_ _) | (with_reducible apply Blk.set') | (with_reducible refine Blk.far' ?_ ?_ _) | (with_reducible refine RowIn.far' ?_ ?_ _) | (with_reducible refine Below.far' ?_ ?_ _) | rfl | omega | go_size)
    have kr := zr.cell; have fr := zr.frozen; have lr := zr.lt
    have hne : blockOf B1 ≠ some w.heap.size := own1.ne_blk zr (by decide)
    have rw1 := own1.rowIn
    clear hg1 hat1
    go_wp2
    refine bodyPost_ret (v := .tuple #[.agg #[.slice B1 n d1, .int .i64 (8 * (n : Int))], .int .i64 0]) (by simp [results, Try.results28, go_sem, kr]) rfl ?_
    rw [HR.out]
    refine RetB.of (x := .agg #[.slice B1 n d1, .int .i64 (8 * (n : Int))]) rfl ⟨B1, n, d1, by rw [unpack_len, HX.out]; rfl, own1.rowC.2, ?_⟩ ?_
    · rw [pack_unpack hb]
      refine RowIn.mono (lo := w.heap.size + 1) (hi := w1.heap.size) ?_ (by omega) (by go_size)
      repeat' (first | (with_reducible assumption) | (with_reducible exact Below.refl _ _) | (with_reducible refine Blk.drewN ?_ _) | (with_reducible refine RowIn.drewN ?_ _) | (with_reducible refine below_drewN ?_ _) | (with_reducible refine Blk.drew ?_) | (with_reducible refine RowIn.drew ?_) | (with_reducible refine Below.drew ?_) | (with_reducible refine Blk.new' ?_ ?_ <;> first | (with_reducible rfl) | (simp; done)) | (with_reducible refine Blk.alloc ?_ _) | (with_reducible refine RowIn.alloc ?_ _) | (with_reducible refine Below.alloc ?_ ?_ _) | (with_reducible apply Blk.set') | (with_reducible refine Blk.far' ?_ ?_ _) | (with_reducible refine RowIn.far' ?_ ?_ _) | (with_reducible refine Below.far' ?_ ?_ _) | rfl | omega | go_size)
    · repeat' (first | (with_reducible assumption) | (with_reducible exact Below.refl _ _) | (with_reducible refine Blk.drewN ?_ _) | (with_reducible refine RowIn.drewN ?_ _) | (with_reducible refine below_drewN ?_ _) | (with_reducible refine Blk.drew ?_) | (with_reducible refine RowIn.drew ?_) | (with_reducible refine Below.drew ?_) | (with_reducible refine Blk.new' ?_ ?_ <;> first | (with_reducible rfl) | (simp; done)) | (with_reducible refine Blk.alloc ?_ _) | (with_reducible refine RowIn.alloc ?_ _) | (with_reducible refine Below.alloc ?_ ?_ _) | (with_reducible apply Blk.set') | (with_reducible refine Blk.far' ?_ ?_ _) | (with_reducible refine RowIn.far' ?_ ?_ _) | (with_reducible refine Below.far' ?_ ?_ _) | rfl | omega | go_size)


end Go.Proofs.Ytncmnfnminjchaa
