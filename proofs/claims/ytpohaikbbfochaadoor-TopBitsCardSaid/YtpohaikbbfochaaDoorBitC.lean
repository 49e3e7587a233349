/-
  Contracts of copying bits, Put and Get.
-/
import Derived.Test.YtpohaikbbfochaaDoorBitB
import Derived.Test.YtpohaikbbfochaaDoorSt
namespace Go.Proofs.YtpohaikbbfochaaDoor
open Go.RowKit Cad Cad.Bit
set_option linter.unusedVariables false

theorem clone8_any (A : Option Addr) (n c : Nat) (xs : List Int) (w : World) (ha : Row .u8 w A n xs) (hn : n ≤ 900000) :
    Calls Tryd.prog 70 #[.slice A n c] w fun e w' => ∃ B d, e = .returned (.slice B n d) ∧ Own w' w.heap.size 5 .u8 B n d xs ∧ Below w.heap.size w w' := by
  have hnil := fun (W : World) (a : Option Addr) (n c : Nat) => Lib.run_eql_slice_nil (P := Tryd.prog) W 24 5 a n c 0 0 Tryd.underlying24
  cases A with
  | none =>
    have h0 : n = 0 := by
      rcases Nat.eq_zero_or_pos n with h0 | h0
      · exact h0
      · obtain ⟨_, _, h, _⟩ := ha.at h0
        cases h
    subst h0
    have hx : xs = [] := List.eq_nil_of_length_eq_zero ha.len
    subst hx
    go_enter Tryd.func70, Tryd.ntmps70
    go_wp2
    go_ret
    exact ⟨none, 0, rfl, Own.nil _ _ _ _, Below.refl _ _⟩
  | some ad =>
    go_enter Tryd.func70, Tryd.ntmps70
    go_wp2_with (at_builtin; refine wpList_app _ u8E rfl _ _ rfl w.heap.size _ _ _ [] rfl (own_empty w _ _ (Nat.le_refl _)) _ _ _ xs rfl (ha.alloc _) (by omega) (by simp) ?_)
    intro B d w1 hown hg _
    have hbel : Below w.heap.size w w1 := ((Below.refl _ _).alloc (Nat.le_refl _) _).grown hg (by simp) (fun g e => by simp [blockOf] at e; omega)
    clear hg
    go_wp2
    go_ret
    exact ⟨B, d, rfl, hown, hbel⟩

set_option maxHeartbeats 400000 in
theorem twin_any (A : Option Addr) (n c : Nat) (N : Int) (xs : List Int) (w : World) (ha : Row .u8 w A n xs) (hn : n ≤ 900000) :
    Calls Tryd.prog 35 #[.agg #[.slice A n c, .int .i64 N]] w fun e w' => ∃ B d, e = .returned (.agg #[.slice B n d, .int .i64 N]) ∧ Own w' w.heap.size 5 .u8 B n d xs ∧ Below w.heap.size w w' := by
  go_enter Tryd.func35, Tryd.ntmps35
  go_wp2_with fail
  have z0 : Blk ((w.alloc (.cells #[.slice A n c, .int .i64 N] 26)).alloc (.cells #[.slice none 0 0, .int .i64 0] 26)) w.heap.size 26 [.slice A n c, .int .i64 N] := (Blk.new w _ [.slice A n c, .int .i64 N]).alloc _
  have z1 : Blk ((w.alloc (.cells #[.slice A n c, .int .i64 N] 26)).alloc (.cells #[.slice none 0 0, .int .i64 0] 26)) (w.heap.size + 1) 26 [.slice none 0 0, .int .i64 0] := by
    have h := Blk.new (w.alloc (.cells #[.slice A n c, .int .i64 N] 26)) 26 [.slice none 0 0, .int .i64 0]
    rwa [World.size_alloc] at h
  have z2 : Below w.heap.size w ((w.alloc (.cells #[.slice A n c, .int .i64 N] 26)).alloc (.cells #[.slice none 0 0, .int .i64 0] 26)) := ((Below.refl _ _).alloc (Nat.le_refl _) _).alloc (by simp) _
  have z3 := (ha.alloc (.cells #[.slice A n c, .int .i64 N] 26)).alloc (.cells #[.slice none 0 0, .int .i64 0] 26)
  have z4 : ((w.alloc (.cells #[.slice A n c, .int .i64 N] 26)).alloc (.cells #[.slice none 0 0, .int .i64 0] 26)).heap.size = w.heap.size + 2 := by simp
  revert z0 z1 z2 z3 z4
  generalize ((w.alloc (.cells #[.slice A n c, .int .i64 N] 26)).alloc (.cells #[.slice none 0 0, .int .i64 0] 26)) = w0
  intro z0 z1 z2 z3 z4
  have k0 : w0.cell? ⟨w.heap.size, 0, none⟩ = some (.slice A n c) := by rw [z0.cell]; rfl
  have k1 : w0.cell? ⟨w.heap.size, 1, none⟩ = some (.int .i64 N) := by rw [z0.cell]; rfl
  have Z4 := Lib.hid z4
  clear z4
  go_region_law (go_simp; go_at_call 70; refine (clone8_any A n c xs _ (by exact z3) hn).mono ?_; rintro e w1 ⟨B, d, rfl, hown, hbel⟩
                 have hbel1 : Below w0.heap.size w0 w1 := by exact ⟨hbel.os, hbel.tape, hbel.output, hbel.size, hbel.block⟩
                 have y0 := z0.below hbel1 z0.lt
                 have y1 := z1.below hbel1 z1.lt
                 have q1 : w1.cell? ⟨w.heap.size, 1, none⟩ = some (.int .i64 N) := by rw [y0.cell]; rfl
                 have q2 : w1.cell? ⟨w.heap.size + 1, 0, none⟩ = some (.slice none 0 0) := by rw [y1.cell]; rfl
                 have q3 : w1.cell? ⟨w.heap.size + 1, 1, none⟩ = some (.int .i64 0) := by rw [y1.cell]; rfl
                 have q4 := y1.frozen 0
                 have q5 := y1.frozen 1)
  all_goals
    go_wp2
    refine bodyPost_ret (v := .agg #[.slice B n d, .int .i64 N]) (by simp [results, Tryd.results35, go_sem, q2, q3]) rfl ⟨B, d, rfl, ?_, ?_⟩
    · have hz := Z4.out
      have hgne : blockOf B ≠ some (w.heap.size + 1) := hown.ne_blk y1 (by decide)
      refine Own.mono (base := w0.drew.heap.size) ?_ (by show w.heap.size ≤ w0.heap.size; omega)
      exact (hown.frm (S := fun k => k = w.heap.size + 1) (((Frm.refl (fun k => k = w.heap.size + 1) w1).setCell (p := ⟨w.heap.size + 1, 0, none⟩) (fun _ => rfl) _).setCell (p := ⟨w.heap.size + 1, 1, none⟩) (fun _ => rfl) _) (fun k e hk => hgne (by rw [e, hk])))
    · exact ((z2.trans (hbel1.mono z2.size)).setCell (p := ⟨w.heap.size + 1, 0, none⟩) (by show w.heap.size ≤ w.heap.size + 1; omega) _).setCell (p := ⟨w.heap.size + 1, 1, none⟩) (by show w.heap.size ≤ w.heap.size + 1; omega) _

theorem pow64 (n : Nat) (h : n ≤ 64) (v : Nat) (hv : v < 18446744073709551616) : n < 64 ∨ v < 2 ^ n := by
  by_cases h1 : n < 64
  · exact .inl h1
  · right; obtain rfl : n = 64 := by omega
    exact hv

/-- What Put returns: the bits, the error. -/
def putR (bs : List Bool) (v : Nat) (n : Int) : List Bool × Int :=
  if n < 0 ∨ 64 < n then ([], 2) else if 2 ^ n.toNat ≤ v then ([], 16) else if 330000 < bs.length + n.toNat then ([], 18) else (bs ++ lowBits v n.toNat, 0)

set_option maxHeartbeats 1000000 in
theorem bput_any (A : Option Addr) (m c : Nat) (bs : List Bool) (v : Nat) (n : Int) (w : World) (ha : RowC .u8 w A m c (pack bs)) (hl : bs.length ≤ 330000) (hv : v < 18446744073709551616) (hn : -9223372036854775808 ≤ n ∧ n ≤ 9223372036854775807) :
    Calls Tryd.prog 7 #[.agg #[.slice A m c, .int .i64 (bs.length : Nat)], .int .u64 v, .int .i64 n] w fun e w' => ∃ x, e = .returned (.tuple #[x, .int .i64 (putR bs v n).2]) ∧ BitsIn w' w.heap.size w'.heap.size x (putR bs v n).1 ∧ Below w.heap.size w w' := by
  have hcap := ha.2
  have hm : m ≤ 41250 := by have := ha.row.len; rw [pack_len] at this; unfold bytesFor at this; omega
  by_cases h1 : n < 0
  · have HR : Hid (putR bs v n = ([], 2)) := by unfold putR; rw [if_pos (Or.inl h1)]; rfl
    go_enter Tryd.func7, Tryd.ntmps7
    go_wp2_with fail
    have z0 : Blk ((w.alloc (.cells #[.slice A m c, .int .i64 ((bs.length : Nat) : Int)] 26)).alloc (.cells #[.slice none 0 0, .int .i64 0] 26)) w.heap.size 26 [.slice A m c, .int .i64 ((bs.length : Nat) : Int)] := (Blk.new w _ [.slice A m c, .int .i64 ((bs.length : Nat) : Int)]).alloc _
    have z1 : Blk ((w.alloc (.cells #[.slice A m c, .int .i64 ((bs.length : Nat) : Int)] 26)).alloc (.cells #[.slice none 0 0, .int .i64 0] 26)) (w.heap.size + 1) 26 [.slice none 0 0, .int .i64 0] := by
      have h := Blk.new (w.alloc (.cells #[.slice A m c, .int .i64 ((bs.length : Nat) : Int)] 26)) 26 [.slice none 0 0, .int .i64 0]
      rwa [World.size_alloc] at h
    have z2 : Below w.heap.size w ((w.alloc (.cells #[.slice A m c, .int .i64 ((bs.length : Nat) : Int)] 26)).alloc (.cells #[.slice none 0 0, .int .i64 0] 26)) := ((Below.refl _ _).alloc (Nat.le_refl _) _).alloc (by simp) _
    have z3 := (ha.row.alloc (.cells #[.slice A m c, .int .i64 ((bs.length : Nat) : Int)] 26)).alloc (.cells #[.slice none 0 0, .int .i64 0] 26)
    have z4 : ((w.alloc (.cells #[.slice A m c, .int .i64 ((bs.length : Nat) : Int)] 26)).alloc (.cells #[.slice none 0 0, .int .i64 0] 26)).heap.size = w.heap.size + 2 := by simp
    revert z0 z1 z2 z3 z4
    generalize ((w.alloc (.cells #[.slice A m c, .int .i64 ((bs.length : Nat) : Int)] 26)).alloc (.cells #[.slice none 0 0, .int .i64 0] 26)) = w0
    intro z0 z1 z2 z3 z4
    have Z4 := Lib.hid z4
    clear z4
    refine (bcheck_ok A m c bs w0 z3 (by omega) hl).mono ?_
    rintro e w1 ⟨rfl, b1⟩
    have y0 := z0.below b1 z0.lt
    have y1 := z1.below b1 z1.lt
    have y2 := z2.trans (b1.mono z2.size)
    have y3 := z3.below b1
    have q0 : w1.cell? ⟨w.heap.size, 0, none⟩ = some (.slice A m c) := by rw [y0.cell]; rfl
    have q1 : w1.cell? ⟨w.heap.size, 1, none⟩ = some (.int .i64 ((bs.length : Nat) : Int)) := by rw [y0.cell]; rfl
    have q2 : w1.cell? ⟨w.heap.size + 1, 0, none⟩ = some (.slice none 0 0) := by rw [y1.cell]; rfl
    have q3 : w1.cell? ⟨w.heap.size + 1, 1, none⟩ = some (.int .i64 0) := by rw [y1.cell]; rfl
    have q4 := y1.frozen 0
    have q5 := y1.frozen 1
    have q6 := y0.frozen 0
    have q7 := y0.frozen 1
    go_wp2
    refine bodyPost_ret (v := .tuple #[.agg #[.slice none 0 0, .int .i64 0], .int .i64 2]) (by simp [results, Tryd.results7, go_sem, q2, q3]) rfl ⟨_, by rw [HR.out], by rw [HR.out]; exact BitsIn.zero _ _ _, ?_⟩
    exact (y2.setCell (p := ⟨w.heap.size + 1, 0, none⟩) (by show w.heap.size ≤ w.heap.size + 1; omega) _).setCell (p := ⟨w.heap.size + 1, 1, none⟩) (by show w.heap.size ≤ w.heap.size + 1; omega) _
  by_cases h2 : 64 < n
  · have HR : Hid (putR bs v n = ([], 2)) := by unfold putR; rw [if_pos (Or.inr h2)]; rfl
    go_enter Tryd.func7, Tryd.ntmps7
    go_wp2_with fail
    have z0 : Blk ((w.alloc (.cells #[.slice A m c, .int .i64 ((bs.length : Nat) : Int)] 26)).alloc (.cells #[.slice none 0 0, .int .i64 0] 26)) w.heap.size 26 [.slice A m c, .int .i64 ((bs.length : Nat) : Int)] := (Blk.new w _ [.slice A m c, .int .i64 ((bs.length : Nat) : Int)]).alloc _
    have z1 : Blk ((w.alloc (.cells #[.slice A m c, .int .i64 ((bs.length : Nat) : Int)] 26)).alloc (.cells #[.slice none 0 0, .int .i64 0] 26)) (w.heap.size + 1) 26 [.slice none 0 0, .int .i64 0] := by
      have h := Blk.new (w.alloc (.cells #[.slice A m c, .int .i64 ((bs.length : Nat) : Int)] 26)) 26 [.slice none 0 0, .int .i64 0]
      rwa [World.size_alloc] at h
    have z2 : Below w.heap.size w ((w.alloc (.cells #[.slice A m c, .int .i64 ((bs.length : Nat) : Int)] 26)).alloc (.cells #[.slice none 0 0, .int .i64 0] 26)) := ((Below.refl _ _).alloc (Nat.le_refl _) _).alloc (by simp) _
    have z3 := (ha.row.alloc (.cells #[.slice A m c, .int .i64 ((bs.length : Nat) : Int)] 26)).alloc (.cells #[.slice none 0 0, .int .i64 0] 26)
    have z4 : ((w.alloc (.cells #[.slice A m c, .int .i64 ((bs.length : Nat) : Int)] 26)).alloc (.cells #[.slice none 0 0, .int .i64 0] 26)).heap.size = w.heap.size + 2 := by simp
    revert z0 z1 z2 z3 z4
    generalize ((w.alloc (.cells #[.slice A m c, .int .i64 ((bs.length : Nat) : Int)] 26)).alloc (.cells #[.slice none 0 0, .int .i64 0] 26)) = w0
    intro z0 z1 z2 z3 z4
    have Z4 := Lib.hid z4
    clear z4
    refine (bcheck_ok A m c bs w0 z3 (by omega) hl).mono ?_
    rintro e w1 ⟨rfl, b1⟩
    have y0 := z0.below b1 z0.lt
    have y1 := z1.below b1 z1.lt
    have y2 := z2.trans (b1.mono z2.size)
    have y3 := z3.below b1
    have q0 : w1.cell? ⟨w.heap.size, 0, none⟩ = some (.slice A m c) := by rw [y0.cell]; rfl
    have q1 : w1.cell? ⟨w.heap.size, 1, none⟩ = some (.int .i64 ((bs.length : Nat) : Int)) := by rw [y0.cell]; rfl
    have q2 : w1.cell? ⟨w.heap.size + 1, 0, none⟩ = some (.slice none 0 0) := by rw [y1.cell]; rfl
    have q3 : w1.cell? ⟨w.heap.size + 1, 1, none⟩ = some (.int .i64 0) := by rw [y1.cell]; rfl
    have q4 := y1.frozen 0
    have q5 := y1.frozen 1
    have q6 := y0.frozen 0
    have q7 := y0.frozen 1
    go_wp2
    refine bodyPost_ret (v := .tuple #[.agg #[.slice none 0 0, .int .i64 0], .int .i64 2]) (by simp [results, Tryd.results7, go_sem, q2, q3]) rfl ⟨_, by rw [HR.out], by rw [HR.out]; exact BitsIn.zero _ _ _, ?_⟩
    exact (y2.setCell (p := ⟨w.heap.size + 1, 0, none⟩) (by show w.heap.size ≤ w.heap.size + 1; omega) _).setCell (p := ⟨w.heap.size + 1, 1, none⟩) (by show w.heap.size ≤ w.heap.size + 1; omega) _
  obtain ⟨k, rfl⟩ := Int.eq_ofNat_of_zero_le (by omega : 0 ≤ n)
  have hk : k ≤ 64 := by omega
  by_cases h3 : 2 ^ k ≤ v
  · have HR : Hid (putR bs v (k : Nat) = ([], 16)) := by unfold putR; rw [if_neg (by omega), Int.toNat_natCast, if_pos h3]; rfl
    have hk64 : k < 64 := by
      rcases Nat.lt_or_ge k 64 with h | h
      · exact h
      · obtain rfl : k = 64 := by omega
        have h64 : (2 : Nat) ^ 64 = 18446744073709551616 := by decide
        omega
    have hsh : ((v : Int) / 2 ^ k != 0) = true := by
      rw [pow_cast, ← Int.natCast_ediv]
      have : 1 ≤ v / 2 ^ k := (Nat.le_div_iff_mul_le (Nat.two_pow_pos k)).2 (by omega)
      exact bne_iff_ne.2 (by omega)
    clear h3
    go_enter Tryd.func7, Tryd.ntmps7
    go_wp2_with fail
    have z0 : Blk ((w.alloc (.cells #[.slice A m c, .int .i64 ((bs.length : Nat) : Int)] 26)).alloc (.cells #[.slice none 0 0, .int .i64 0] 26)) w.heap.size 26 [.slice A m c, .int .i64 ((bs.length : Nat) : Int)] := (Blk.new w _ [.slice A m c, .int .i64 ((bs.length : Nat) : Int)]).alloc _
    have z1 : Blk ((w.alloc (.cells #[.slice A m c, .int .i64 ((bs.length : Nat) : Int)] 26)).alloc (.cells #[.slice none 0 0, .int .i64 0] 26)) (w.heap.size + 1) 26 [.slice none 0 0, .int .i64 0] := by
      have h := Blk.new (w.alloc (.cells #[.slice A m c, .int .i64 ((bs.length : Nat) : Int)] 26)) 26 [.slice none 0 0, .int .i64 0]
      rwa [World.size_alloc] at h
    have z2 : Below w.heap.size w ((w.alloc (.cells #[.slice A m c, .int .i64 ((bs.length : Nat) : Int)] 26)).alloc (.cells #[.slice none 0 0, .int .i64 0] 26)) := ((Below.refl _ _).alloc (Nat.le_refl _) _).alloc (by simp) _
    have z3 := (ha.row.alloc (.cells #[.slice A m c, .int .i64 ((bs.length : Nat) : Int)] 26)).alloc (.cells #[.slice none 0 0, .int .i64 0] 26)
    have z4 : ((w.alloc (.cells #[.slice A m c, .int .i64 ((bs.length : Nat) : Int)] 26)).alloc (.cells #[.slice none 0 0, .int .i64 0] 26)).heap.size = w.heap.size + 2 := by simp
    revert z0 z1 z2 z3 z4
    generalize ((w.alloc (.cells #[.slice A m c, .int .i64 ((bs.length : Nat) : Int)] 26)).alloc (.cells #[.slice none 0 0, .int .i64 0] 26)) = w0
    intro z0 z1 z2 z3 z4
    have Z4 := Lib.hid z4
    clear z4
    refine (bcheck_ok A m c bs w0 z3 (by omega) hl).mono ?_
    rintro e w1 ⟨rfl, b1⟩
    have y0 := z0.below b1 z0.lt
    have y1 := z1.below b1 z1.lt
    have y2 := z2.trans (b1.mono z2.size)
    have y3 := z3.below b1
    have q0 : w1.cell? ⟨w.heap.size, 0, none⟩ = some (.slice A m c) := by rw [y0.cell]; rfl
    have q1 : w1.cell? ⟨w.heap.size, 1, none⟩ = some (.int .i64 ((bs.length : Nat) : Int)) := by rw [y0.cell]; rfl
    have q2 : w1.cell? ⟨w.heap.size + 1, 0, none⟩ = some (.slice none 0 0) := by rw [y1.cell]; rfl
    have q3 : w1.cell? ⟨w.heap.size + 1, 1, none⟩ = some (.int .i64 0) := by rw [y1.cell]; rfl
    have q4 := y1.frozen 0
    have q5 := y1.frozen 1
    have q6 := y0.frozen 0
    have q7 := y0.frozen 1
    go_wp2
    refine bodyPost_ret (v := .tuple #[.agg #[.slice none 0 0, .int .i64 0], .int .i64 16]) (by simp [results, Tryd.results7, go_sem, q2, q3]) rfl ⟨_, by rw [HR.out], by rw [HR.out]; exact BitsIn.zero _ _ _, ?_⟩
    exact (y2.setCell (p := ⟨w.heap.size + 1, 0, none⟩) (by show w.heap.size ≤ w.heap.size + 1; omega) _).setCell (p := ⟨w.heap.size + 1, 1, none⟩) (by show w.heap.size ≤ w.heap.size + 1; omega) _
  have h3' : v < 2 ^ k := by omega
  have hsh : k < 64 → ((v : Int) / 2 ^ k != 0) = false := fun _ => by
    rw [pow_cast, ← Int.natCast_ediv, Nat.div_eq_of_lt h3']; rfl
  by_cases h4 : 330000 < bs.length + k
  · have HR : Hid (putR bs v (k : Nat) = ([], 18)) := by unfold putR; rw [if_neg (by omega), Int.toNat_natCast, if_neg (by omega), if_pos h4]; rfl
    clear h3
    by_cases hk64 : k < 64
    · have hsh' := hsh hk64
      clear hsh
      go_enter Tryd.func7, Tryd.ntmps7
      go_wp2_with fail
      have z0 : Blk ((w.alloc (.cells #[.slice A m c, .int .i64 ((bs.length : Nat) : Int)] 26)).alloc (.cells #[.slice none 0 0, .int .i64 0] 26)) w.heap.size 26 [.slice A m c, .int .i64 ((bs.length : Nat) : Int)] := (Blk.new w _ [.slice A m c, .int .i64 ((bs.length : Nat) : Int)]).alloc _
      have z1 : Blk ((w.alloc (.cells #[.slice A m c, .int .i64 ((bs.length : Nat) : Int)] 26)).alloc (.cells #[.slice none 0 0, .int .i64 0] 26)) (w.heap.size + 1) 26 [.slice none 0 0, .int .i64 0] := by
        have h := Blk.new (w.alloc (.cells #[.slice A m c, .int .i64 ((bs.length : Nat) : Int)] 26)) 26 [.slice none 0 0, .int .i64 0]
        rwa [World.size_alloc] at h
      have z2 : Below w.heap.size w ((w.alloc (.cells #[.slice A m c, .int .i64 ((bs.length : Nat) : Int)] 26)).alloc (.cells #[.slice none 0 0, .int .i64 0] 26)) := ((Below.refl _ _).alloc (Nat.le_refl _) _).alloc (by simp) _
      have z3 := (ha.row.alloc (.cells #[.slice A m c, .int .i64 ((bs.length : Nat) : Int)] 26)).alloc (.cells #[.slice none 0 0, .int .i64 0] 26)
      have z4 : ((w.alloc (.cells #[.slice A m c, .int .i64 ((bs.length : Nat) : Int)] 26)).alloc (.cells #[.slice none 0 0, .int .i64 0] 26)).heap.size = w.heap.size + 2 := by simp
      revert z0 z1 z2 z3 z4
      generalize ((w.alloc (.cells #[.slice A m c, .int .i64 ((bs.length : Nat) : Int)] 26)).alloc (.cells #[.slice none 0 0, .int .i64 0] 26)) = w0
      intro z0 z1 z2 z3 z4
      have Z4 := Lib.hid z4
      clear z4
      refine (bcheck_ok A m c bs w0 z3 (by omega) hl).mono ?_
      rintro e w1 ⟨rfl, b1⟩
      have y0 := z0.below b1 z0.lt
      have y1 := z1.below b1 z1.lt
      have y2 := z2.trans (b1.mono z2.size)
      have y3 := z3.below b1
      have q0 : w1.cell? ⟨w.heap.size, 0, none⟩ = some (.slice A m c) := by rw [y0.cell]; rfl
      have q1 : w1.cell? ⟨w.heap.size, 1, none⟩ = some (.int .i64 ((bs.length : Nat) : Int)) := by rw [y0.cell]; rfl
      have q2 : w1.cell? ⟨w.heap.size + 1, 0, none⟩ = some (.slice none 0 0) := by rw [y1.cell]; rfl
      have q3 : w1.cell? ⟨w.heap.size + 1, 1, none⟩ = some (.int .i64 0) := by rw [y1.cell]; rfl
      have q4 := y1.frozen 0
      have q5 := y1.frozen 1
      have q6 := y0.frozen 0
      have q7 := y0.frozen 1
      go_wp2
      refine bodyPost_ret (v := .tuple #[.agg #[.slice none 0 0, .int .i64 0], .int .i64 18]) (by simp [results, Tryd.results7, go_sem, q2, q3]) rfl ⟨_, by rw [HR.out], by rw [HR.out]; exact BitsIn.zero _ _ _, ?_⟩
      exact (y2.setCell (p := ⟨w.heap.size + 1, 0, none⟩) (by show w.heap.size ≤ w.heap.size + 1; omega) _).setCell (p := ⟨w.heap.size + 1, 1, none⟩) (by show w.heap.size ≤ w.heap.size + 1; omega) _
    · clear hsh
      go_enter Tryd.func7, Tryd.ntmps7
      go_wp2_with fail
      have z0 : Blk ((w.alloc (.cells #[.slice A m c, .int .i64 ((bs.length : Nat) : Int)] 26)).alloc (.cells #[.slice none 0 0, .int .i64 0] 26)) w.heap.size 26 [.slice A m c, .int .i64 ((bs.length : Nat) : Int)] := (Blk.new w _ [.slice A m c, .int .i64 ((bs.length : Nat) : Int)]).alloc _
      have z1 : Blk ((w.alloc (.cells #[.slice A m c, .int .i64 ((bs.length : Nat) : Int)] 26)).alloc (.cells #[.slice none 0 0, .int .i64 0] 26)) (w.heap.size + 1) 26 [.slice none 0 0, .int .i64 0] := by
        have h := Blk.new (w.alloc (.cells #[.slice A m c, .int .i64 ((bs.length : Nat) : Int)] 26)) 26 [.slice none 0 0, .int .i64 0]
        rwa [World.size_alloc] at h
      have z2 : Below w.heap.size w ((w.alloc (.cells #[.slice A m c, .int .i64 ((bs.length : Nat) : Int)] 26)).alloc (.cells #[.slice none 0 0, .int .i64 0] 26)) := ((Below.refl _ _).alloc (Nat.le_refl _) _).alloc (by simp) _
      have z3 := (ha.row.alloc (.cells #[.slice A m c, .int .i64 ((bs.length : Nat) : Int)] 26)).alloc (.cells #[.slice none 0 0, .int .i64 0] 26)
      have z4 : ((w.alloc (.cells #[.slice A m c, .int .i64 ((bs.length : Nat) : Int)] 26)).alloc (.cells #[.slice none 0 0, .int .i64 0] 26)).heap.size = w.heap.size + 2 := by simp
      revert z0 z1 z2 z3 z4
      generalize ((w.alloc (.cells #[.slice A m c, .int .i64 ((bs.length : Nat) : Int)] 26)).alloc (.cells #[.slice none 0 0, .int .i64 0] 26)) = w0
      intro z0 z1 z2 z3 z4
      have Z4 := Lib.hid z4
      clear z4
      refine (bcheck_ok A m c bs w0 z3 (by omega) hl).mono ?_
      rintro e w1 ⟨rfl, b1⟩
      have y0 := z0.below b1 z0.lt
      have y1 := z1.below b1 z1.lt
      have y2 := z2.trans (b1.mono z2.size)
      have y3 := z3.below b1
      have q0 : w1.cell? ⟨w.heap.size, 0, none⟩ = some (.slice A m c) := by rw [y0.cell]; rfl
      have q1 : w1.cell? ⟨w.heap.size, 1, none⟩ = some (.int .i64 ((bs.length : Nat) : Int)) := by rw [y0.cell]; rfl
      have q2 : w1.cell? ⟨w.heap.size + 1, 0, none⟩ = some (.slice none 0 0) := by rw [y1.cell]; rfl
      have q3 : w1.cell? ⟨w.heap.size + 1, 1, none⟩ = some (.int .i64 0) := by rw [y1.cell]; rfl
      have q4 := y1.frozen 0
      have q5 := y1.frozen 1
      have q6 := y0.frozen 0
      have q7 := y0.frozen 1
      go_wp2
      refine bodyPost_ret (v := .tuple #[.agg #[.slice none 0 0, .int .i64 0], .int .i64 18]) (by simp [results, Tryd.results7, go_sem, q2, q3]) rfl ⟨_, by rw [HR.out], by rw [HR.out]; exact BitsIn.zero _ _ _, ?_⟩
      exact (y2.setCell (p := ⟨w.heap.size + 1, 0, none⟩) (by show w.heap.size ≤ w.heap.size + 1; omega) _).setCell (p := ⟨w.heap.size + 1, 1, none⟩) (by show w.heap.size ≤ w.heap.size + 1; omega) _
  have HR : Hid (putR bs v (k : Nat) = (bs ++ lowBits v k, 0)) := by unfold putR; rw [if_neg (by omega), Int.toNat_natCast, if_neg (by omega), if_neg h4]; rfl
  clear h3
  have okway : ∀ e w', (∃ B m' d, e = Ending.returned (.tuple #[.agg #[.slice B m' d, .int .i64 ((bs.length + k : Nat) : Int)], .int .i64 0]) ∧ ((m' ≤ d ∧ d ≤ 9223372036854775807) ∧ RowIn .u8 w' w.heap.size w'.heap.size B m' (pack (bs ++ lowBits v k))) ∧ Below w.heap.size w w') → ∃ x, e = .returned (.tuple #[x, .int .i64 (putR bs v (k : Nat)).2]) ∧ BitsIn w' w.heap.size w'.heap.size x (putR bs v (k : Nat)).1 ∧ Below w.heap.size w w' := by
    rintro e w' ⟨B, m', d, rfl, hr, hb⟩
    refine ⟨_, by rw [HR.out], ?_, hb⟩
    rw [HR.out]
    exact ⟨B, m', d, by rw [List.length_append, lowBits_len], hr⟩
  refine Calls.mono ?_ okway
  clear okway HR
  by_cases hk64 : k < 64
  all_goals
    first
      | (have hsh' := hsh hk64; clear hsh)
      | clear hsh
    go_enter Tryd.func7, Tryd.ntmps7
    go_wp2_with fail
    have z0 : Blk ((w.alloc (.cells #[.slice A m c, .int .i64 ((bs.length : Nat) : Int)] 26)).alloc (.cells #[.slice none 0 0, .int .i64 0] 26)) w.heap.size 26 [.slice A m c, .int .i64 ((bs.length : Nat) : Int)] := (Blk.new w _ [.slice A m c, .int .i64 ((bs.length : Nat) : Int)]).alloc _
    have z1 : Blk ((w.alloc (.cells #[.slice A m c, .int .i64 ((bs.length : Nat) : Int)] 26)).alloc (.cells #[.slice none 0 0, .int .i64 0] 26)) (w.heap.size + 1) 26 [.slice none 0 0, .int .i64 0] := by
      have h := Blk.new (w.alloc (.cells #[.slice A m c, .int .i64 ((bs.length : Nat) : Int)] 26)) 26 [.slice none 0 0, .int .i64 0]
      rwa [World.size_alloc] at h
    have z2 : Below w.heap.size w ((w.alloc (.cells #[.slice A m c, .int .i64 ((bs.length : Nat) : Int)] 26)).alloc (.cells #[.slice none 0 0, .int .i64 0] 26)) := ((Below.refl _ _).alloc (Nat.le_refl _) _).alloc (by simp) _
    have z3 := (ha.row.alloc (.cells #[.slice A m c, .int .i64 ((bs.length : Nat) : Int)] 26)).alloc (.cells #[.slice none 0 0, .int .i64 0] 26)
    have z4 : ((w.alloc (.cells #[.slice A m c, .int .i64 ((bs.length : Nat) : Int)] 26)).alloc (.cells #[.slice none 0 0, .int .i64 0] 26)).heap.size = w.heap.size + 2 := by simp
    revert z0 z1 z2 z3 z4
    generalize ((w.alloc (.cells #[.slice A m c, .int .i64 ((bs.length : Nat) : Int)] 26)).alloc (.cells #[.slice none 0 0, .int .i64 0] 26)) = w0
    intro z0 z1 z2 z3 z4
    have Z4 := Lib.hid z4
    clear z4
    refine (bcheck_ok A m c bs w0 z3 (by omega) hl).mono ?_
    rintro e w1 ⟨rfl, b1⟩
    have y0 := z0.below b1 z0.lt
    have y1 := z1.below b1 z1.lt
    have y2 := z2.trans (b1.mono z2.size)
    have y3 := z3.below b1
    have q0 : w1.cell? ⟨w.heap.size, 0, none⟩ = some (.slice A m c) := by rw [y0.cell]; rfl
    have q1 : w1.cell? ⟨w.heap.size, 1, none⟩ = some (.int .i64 ((bs.length : Nat) : Int)) := by rw [y0.cell]; rfl
    have q2 : w1.cell? ⟨w.heap.size + 1, 0, none⟩ = some (.slice none 0 0) := by rw [y1.cell]; rfl
    have q3 : w1.cell? ⟨w.heap.size + 1, 1, none⟩ = some (.int .i64 0) := by rw [y1.cell]; rfl
    have q4 := y1.frozen 0
    have q5 := y1.frozen 1
    have q6 := y0.frozen 0
    have q7 := y0.frozen 1
    go_wp2_with fail
    refine (twin_any A m c (bs.length : Nat) (pack bs) w1 y3 (by omega)).mono ?_
    rintro e w2 ⟨B2, d2, rfl, own2, b2⟩
    have x0 := y0.below b2 y0.lt
    have x1 := y1.below b2 y1.lt
    have x2 := y2.trans (b2.mono y2.size)
    have p0 : w2.cell? ⟨w.heap.size, 0, none⟩ = some (.slice A m c) := by rw [x0.cell]; rfl
    have p1 : w2.cell? ⟨w.heap.size, 1, none⟩ = some (.int .i64 ((bs.length : Nat) : Int)) := by rw [x0.cell]; rfl
    have p6 := x0.frozen 0
    have p7 := x0.frozen 1
    clear q0 q1 q2 q3 q4 q5 q6 q7
    go_wp2_with fail
    have hx0 : Cell2 ((w2.setCell ⟨w.heap.size, 0, none⟩ (.slice B2 m d2)).setCell ⟨w.heap.size, 1, none⟩ (.int .i64 ((bs.length : Nat) : Int))) w.heap.size B2 m d2 bs.length := (x0.set 0 (.slice B2 m d2)).set 1 (.int .i64 ((bs.length : Nat) : Int))
    have hx1 : Blk ((w2.setCell ⟨w.heap.size, 0, none⟩ (.slice B2 m d2)).setCell ⟨w.heap.size, 1, none⟩ (.int .i64 ((bs.length : Nat) : Int))) (w.heap.size + 1) 26 [.slice none 0 0, .int .i64 0] := (x1.far (p := ⟨w.heap.size, 0, none⟩) (by show w.heap.size + 1 ≠ w.heap.size; omega) _).far (p := ⟨w.heap.size, 1, none⟩) (by show w.heap.size + 1 ≠ w.heap.size; omega) _
    have hx2 : Below w.heap.size w ((w2.setCell ⟨w.heap.size, 0, none⟩ (.slice B2 m d2)).setCell ⟨w.heap.size, 1, none⟩ (.int .i64 ((bs.length : Nat) : Int))) := (x2.setCell (p := ⟨w.heap.size, 0, none⟩) (Nat.le_refl _) _).setCell (p := ⟨w.heap.size, 1, none⟩) (Nat.le_refl _) _
    have hx3 : Own ((w2.setCell ⟨w.heap.size, 0, none⟩ (.slice B2 m d2)).setCell ⟨w.heap.size, 1, none⟩ (.int .i64 ((bs.length : Nat) : Int))) w1.heap.size 5 .u8 B2 m d2 (pack bs) := by
      have hne : blockOf B2 ≠ some w.heap.size := own2.ne_blk x0 (by decide)
      exact own2.frm (S := fun k => k = w.heap.size) (((Frm.refl (fun k => k = w.heap.size) w2).setCell (p := ⟨w.heap.size, 0, none⟩) (fun _ => rfl) _).setCell (p := ⟨w.heap.size, 1, none⟩) (fun _ => rfl) _) (fun k e hk => hne (by rw [e, hk]))
    have hx4 : w1.heap.size ≤ ((w2.setCell ⟨w.heap.size, 0, none⟩ (.slice B2 m d2)).setCell ⟨w.heap.size, 1, none⟩ (.int .i64 ((bs.length : Nat) : Int))).heap.size := by simp; exact b2.size
    clear x0 x1 x2 p0 p1 p6 p7
    revert hx0 hx1 hx2 hx3 hx4
    generalize ((w2.setCell ⟨w.heap.size, 0, none⟩ (.slice B2 m d2)).setCell ⟨w.heap.size, 1, none⟩ (.int .i64 ((bs.length : Nat) : Int))) = w3
    intro hx0 hx1 hx2 hx3 hx4
    refine (put_any w.heap.size w1.heap.size B2 m d2 bs v k w3 hv hk (by omega) hx4 hx0 hx3).mono ?_
    rintro e w4 ⟨rfl, B4, m4, d4, c4, own4, fr4, _⟩
    have hb1 := own2.block
    have hs1 : w.heap.size + 1 < w1.heap.size := y1.lt
    have r1 : Blk w4 (w.heap.size + 1) 26 [.slice none 0 0, .int .i64 0] := hx1.frm fr4 (by
      rintro (h | h)
      · omega
      · have := (hb1 _ h).1; omega)
    have r2 : Below w.heap.size w w4 := hx2.trans (fr4.below hx2.size (fun j hj => by
      rintro (h | h)
      · omega
      · have := (hb1 _ h).1; omega))
    have g0 : w4.cell? ⟨w.heap.size, 0, none⟩ = some (.slice B4 m4 d4) := by rw [c4.cell]; rfl
    have g1 : w4.cell? ⟨w.heap.size, 1, none⟩ = some (.int .i64 ((bs.length + k : Nat) : Int)) := by rw [c4.cell]; rfl
    have g2 : w4.cell? ⟨w.heap.size + 1, 0, none⟩ = some (.slice none 0 0) := by rw [r1.cell]; rfl
    have g3 : w4.cell? ⟨w.heap.size + 1, 1, none⟩ = some (.int .i64 0) := by rw [r1.cell]; rfl
    have g4 := r1.frozen 0
    have g5 := r1.frozen 1
    go_wp2
    refine bodyPost_ret (v := .tuple #[.agg #[.slice B4 m4 d4, .int .i64 ((bs.length + k : Nat) : Int)], .int .i64 0]) (by simp [results, Tryd.results7, go_sem, g2, g3]) rfl ⟨B4, m4, d4, rfl, ?_, ?_⟩
    · have hne : blockOf B4 ≠ some (w.heap.size + 1) := own4.ne_blk r1 (by decide)
      have ho : Own ((w4.setCell ⟨w.heap.size + 1, 0, none⟩ (.slice B4 m4 d4)).setCell ⟨w.heap.size + 1, 1, none⟩ (.int .i64 ((bs.length + k : Nat) : Int))) w1.heap.size 5 .u8 B4 m4 d4 (pack (bs ++ lowBits v k)) := (own4.frm (S := fun k => k = w.heap.size + 1) (((Frm.refl (fun k => k = w.heap.size + 1) w4).setCell (p := ⟨w.heap.size + 1, 0, none⟩) (fun _ => rfl) _).setCell (p := ⟨w.heap.size + 1, 1, none⟩) (fun _ => rfl) _) (fun k e hk => hne (by rw [e, hk])))
      exact ⟨ho.rowC.2, ho.rowIn.mono (by omega) (Nat.le_refl _)⟩
    · exact (r2.setCell (p := ⟨w.heap.size + 1, 0, none⟩) (by show w.heap.size ≤ w.heap.size + 1; omega) _).setCell (p := ⟨w.heap.size + 1, 1, none⟩) (by show w.heap.size ≤ w.heap.size + 1; omega) _

end Go.Proofs.YtpohaikbbfochaaDoor

