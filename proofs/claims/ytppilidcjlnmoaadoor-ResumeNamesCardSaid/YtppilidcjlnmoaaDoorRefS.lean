/-
  Contracts of the reference: reading of chapters 7 and 8.
-/
import Derived.Test.YtppilidcjlnmoaaDoorRefV
import Derived.Test.YtppilidcjlnmoaaDoorRefT
import Derived.Test.YtppilidcjlnmoaaDoorDualD
import Derived.Test.YtppilidcjlnmoaaDoorRefN
namespace Go.Proofs.YtppilidcjlnmoaaDoor
open Go.RowKit Cad Cad.Bit Cad.Code
set_option linter.unusedVariables false
set_option linter.unusedSimpArgs false


/-- What Got returns. -/
def rgR (bs : List Bool) (i k : Nat) : Int × Int × Int := match readR (bs.drop i) k with
  | .ok v n => ((v : Nat), ((i + n : Nat) : Int), 0)
  | .err e => (0, 0, (e : Nat))
theorem readR_nil {l : List Bool} (k : Nat) (h : l = []) : readR l k = .err 24 := by subst h; rfl

set_option maxRecDepth 100000 in
set_option maxHeartbeats 2000000 in
theorem rrgot_ret (A : Option Addr) (m c : Nat) (bs : List Bool) (i k : Nat) (w : World) (ha : Row .u8 w A m (pack bs)) (hc : m ≤ c ∧ c ≤ 9223372036854775807) (hl : bs.length ≤ 330000) (hi : i ≤ 9223372036854775807) (hk : k ≤ 24) :
    Calls Tryd.prog 69 #[.agg #[.slice A m c, .int .i64 ((bs.length : Nat) : Int)], .int .i64 (i : Nat), .int .i64 (k : Nat)] w fun e w' => e = .returned (.tuple #[.int .u32 (rgR bs i k).1, .int .i64 (rgR bs i k).2.1, .int .i64 (rgR bs i k).2.2]) ∧ Below w.heap.size w w' := by
  have hri := ha.rowIn
  by_cases h2 : bs.length ≤ i
  · have HR : Hid (rgR bs i k = (0, 0, 24)) := by unfold rgR; rw [readR_nil k (List.drop_of_length_le h2)]; exact Lib.hid rfl
    have hlt : (bs.length : Int) ≤ (i : Int) := by omega
    go_enter Tryd.func69, Tryd.ntmps69
    go_wp2_with fail
    go_wp2
    go_ret3
    refine ⟨by rw [HR.out]; first | rfl | go_num, ?_⟩
    repeat' (first | (with_reducible assumption) | (with_reducible exact Below.refl _ _) | (with_reducible refine Blk.drewN ?_ _) | (with_reducible refine RowIn.drewN ?_ _) | (with_reducible refine below_drewN ?_ _) | (with_reducible refine Blk.drew ?_) | (with_reducible refine RowIn.drew ?_) | (with_reducible refine Below.drew ?_) | (with_reducible refine Blk.new' ?_ ?_ <;> first | (with_reducible rfl) | (simp; done)) | (with_reducible refine Blk.alloc ?_ _) | (with_reducible refine RowIn.alloc ?_ _) | (with_reducible refine Below.alloc ?_ ?_ _) | (with_reducible apply Blk.set') | (with_reducible apply Blk.far') | (with_reducible refine RowIn.far' ?_ ?_ _) | (with_reducible refine Below.far' ?_ ?_ _) | rfl | omega | go_size)
  have hlt : ¬ (bs.length : Int) ≤ (i : Int) := by omega
  obtain ⟨a1, a2, HG⟩ : ∃ a1 a2, Hid (ugR bs i = (a1, a2)) := ⟨_, _, Lib.hid rfl⟩
  cases hu : readU (bs.drop i) with
  | err e =>
    obtain ⟨rfl, _, _⟩ := readU_err hu
    have HR : Hid (rgR bs i k = (0, 0, 24)) := by unfold rgR readR; rw [hu]; exact Lib.hid rfl
    have HG2 : Hid (ugR bs i = (-1, 0)) := by unfold ugR; rw [hu]; exact Lib.hid rfl
    clear hu
    go_enter Tryd.func69, Tryd.ntmps69
    go_wp2_with fail
    have hg := fun W (hr : Row .u8 W A m (pack bs)) => rugot_any A m c bs i W hr hc hl (by omega)
    rw [HG2.out] at hg
    replace hg := Lib.hid hg
    refine (hg.out _ (by exact RowIn.row (lo := 0) (hi := w.heap.size) (by repeat' (first | (with_reducible assumption) | (with_reducible exact Below.refl _ _) | (with_reducible refine Blk.drewN ?_ _) | (with_reducible refine RowIn.drewN ?_ _) | (with_reducible refine below_drewN ?_ _) | (with_reducible refine Blk.drew ?_) | (with_reducible refine RowIn.drew ?_) | (with_reducible refine Below.drew ?_) | (with_reducible refine Blk.new' ?_ ?_ <;> first | (with_reducible rfl) | (simp; done)) | (with_reducible refine Blk.alloc ?_ _) | (with_reducible refine RowIn.alloc ?_ _) | (with_reducible refine Below.alloc ?_ ?_ _) | (with_reducible apply Blk.set') | (with_reducible apply Blk.far') | (with_reducible refine RowIn.far' ?_ ?_ _) | (with_reducible refine Below.far' ?_ ?_ _) | rfl | omega | go_size)))).mono ?_
    rintro e w1 ⟨rfl, b1⟩
    have s1 := b1.size
    try simp only [World.size_alloc, World.size_setCell, World.size_drew, size_drewN] at s1
    obtain ⟨zb_1, rb_1, bb_1⟩ : Blk w1 (w.heap.size) 24 [.slice A m c, .int .i64 ((bs.length : Nat) : Int)] ∧ RowIn .u8 w1 (0) (w.heap.size) A m (pack bs) ∧ Below w.heap.size w w1 := by
      refine ⟨?_, ?_, ?_⟩
      all_goals repeat' (first | (with_reducible assumption) | (with_reducible exact Below.refl _ _) | (with_reducible refine Blk.after ?_ b1) | (with_reducible refine RowIn.belowS ?_ b1) | (with_reducible refine Below.after ?_ b1 ?_) | (with_reducible refine Blk.drewN ?_ _) | (with_reducible refine RowIn.drewN ?_ _) | (with_reducible refine below_drewN ?_ _) | (with_reducible refine Blk.drew ?_) | (with_reducible refine RowIn.drew ?_) | (with_reducible refine Below.drew ?_) | (with_reducible refine Blk.new' ?_ ?_ <;> first | (with_reducible rfl) | (simp; done)) | (with_reducible refine Blk.alloc ?_ _) | (with_reducible refine RowIn.alloc ?_ _) | (with_reducible refine Below.alloc ?_ ?_ _) | (with_reducible apply Blk.set') | (with_reducible apply Blk.far') | (with_reducible refine RowIn.far' ?_ ?_ _) | (with_reducible refine Below.far' ?_ ?_ _) | rfl | omega | go_size)
    clear b1
    have kb_1 := zb_1.cell; have fb_1 := zb_1.frozen; have lb_1 := zb_1.lt
    clear hg
    go_wp2
    go_ret3
    refine ⟨by rw [HR.out]; first | rfl | go_num, ?_⟩
    repeat' (first | (with_reducible assumption) | (with_reducible exact Below.refl _ _) | (with_reducible refine Blk.drewN ?_ _) | (with_reducible refine RowIn.drewN ?_ _) | (with_reducible refine below_drewN ?_ _) | (with_reducible refine Blk.drew ?_) | (with_reducible refine RowIn.drew ?_) | (with_reducible refine Below.drew ?_) | (with_reducible refine Blk.new' ?_ ?_ <;> first | (with_reducible rfl) | (simp; done)) | (with_reducible refine Blk.alloc ?_ _) | (with_reducible refine RowIn.alloc ?_ _) | (with_reducible refine Below.alloc ?_ ?_ _) | (with_reducible apply Blk.set') | (with_reducible apply Blk.far') | (with_reducible refine RowIn.far' ?_ ?_ _) | (with_reducible refine Below.far' ?_ ?_ _) | rfl | omega | go_size)
  | ok q u =>
    obtain ⟨hq, hur, t, ht2⟩ := readU_inv hu
    have hul : u + i ≤ bs.length := by
      have h := congrArg List.length ht2
      rw [List.length_drop, List.length_append, run_len hq, ← hur] at h
      have : 1 ≤ u := by rw [hur]; unfold runLen; omega
      omega
    have hdl : (bs.drop i).length = bs.length - i := List.length_drop ..
    have HR1 : Hid (readR (bs.drop i) k = if bs.length - i - u < restLen q k then .err 24 else if q < 48 then .ok (q * 2 ^ k + bval ((bs.drop (i + u)).take (restLen q k))) (u + restLen q k) else if bval ((bs.drop (i + u)).take (restLen q k)) / 2 ^ k < 48 then .err 12 else .ok (bval ((bs.drop (i + u)).take (restLen q k))) (u + restLen q k)) := by
      unfold readR; rw [hu]; dsimp only; rw [hdl, List.drop_drop]; exact Lib.hid rfl
    have HG2 : Hid (ugR bs i = ((q : Int), ((i + u : Nat) : Int))) := by unfold ugR; rw [hu]; exact Lib.hid rfl
    clear hu ht2 hdl hur
    obtain ⟨z, hz⟩ : ∃ z, z = i + u := ⟨_, rfl⟩
    have hzb : z ≤ bs.length := by omega
    rw [← hz] at HR1 HG2
    obtain ⟨y, HY⟩ : ∃ y, Hid (y = bval ((bs.drop z).take (restLen q k))) := ⟨_, Lib.hid rfl⟩
    rw [← HY.out] at HR1
    by_cases h48 : q = 48
    · have hrl : restLen q k = 32 := by unfold restLen; rw [if_pos h48]
      rw [hrl] at HR1 HY
      clear hrl
      subst h48
      by_cases h5 : bs.length - i - u < 32
      · have HR : Hid (rgR bs i k = (0, 0, 24)) := by unfold rgR; rw [HR1.out, if_pos h5]; exact Lib.hid rfl
        have t5 : decide (((bs.length : Nat) : Int) - (z : Int) < (32 : Int)) = true := decide_eq_true (by omega)
        clear hz h5
        go_enter Tryd.func69, Tryd.ntmps69
        go_wp2_with fail
        have hg := fun W (hr : Row .u8 W A m (pack bs)) => rugot_any A m c bs i W hr hc hl (by omega)
        rw [HG2.out] at hg
        replace hg := Lib.hid hg
        refine (hg.out _ (by exact RowIn.row (lo := 0) (hi := w.heap.size) (by repeat' (first | (with_reducible assumption) | (with_reducible exact Below.refl _ _) | (with_reducible refine Blk.drewN ?_ _) | (with_reducible refine RowIn.drewN ?_ _) | (with_reducible refine below_drewN ?_ _) | (with_reducible refine Blk.drew ?_) | (with_reducible refine RowIn.drew ?_) | (with_reducible refine Below.drew ?_) | (with_reducible refine Blk.new' ?_ ?_ <;> first | (with_reducible rfl) | (simp; done)) | (with_reducible refine Blk.alloc ?_ _) | (with_reducible refine RowIn.alloc ?_ _) | (with_reducible refine Below.alloc ?_ ?_ _) | (with_reducible apply Blk.set') | (with_reducible apply Blk.far') | (with_reducible refine RowIn.far' ?_ ?_ _) | (with_reducible refine Below.far' ?_ ?_ _) | rfl | omega | go_size)))).mono ?_
        rintro e w1 ⟨rfl, b1⟩
        have s1 := b1.size
        try simp only [World.size_alloc, World.size_setCell, World.size_drew, size_drewN] at s1
        obtain ⟨zb_1, rb_1, bb_1⟩ : Blk w1 (w.heap.size) 24 [.slice A m c, .int .i64 ((bs.length : Nat) : Int)] ∧ RowIn .u8 w1 (0) (w.heap.size) A m (pack bs) ∧ Below w.heap.size w w1 := by
          refine ⟨?_, ?_, ?_⟩
          all_goals repeat' (first | (with_reducible assumption) | (with_reducible exact Below.refl _ _) | (with_reducible refine Blk.after ?_ b1) | (with_reducible refine RowIn.belowS ?_ b1) | (with_reducible refine Below.after ?_ b1 ?_) | (with_reducible refine Blk.drewN ?_ _) | (with_reducible refine RowIn.drewN ?_ _) | (with_reducible refine below_drewN ?_ _) | (with_reducible refine Blk.drew ?_) | (with_reducible refine RowIn.drew ?_) | (with_reducible refine Below.drew ?_) | (with_reducible refine Blk.new' ?_ ?_ <;> first | (with_reducible rfl) | (simp; done)) | (with_reducible refine Blk.alloc ?_ _) | (with_reducible refine RowIn.alloc ?_ _) | (with_reducible refine Below.alloc ?_ ?_ _) | (with_reducible apply Blk.set') | (with_reducible apply Blk.far') | (with_reducible refine RowIn.far' ?_ ?_ _) | (with_reducible refine Below.far' ?_ ?_ _) | rfl | omega | go_size)
        clear b1
        have kb_1 := zb_1.cell; have fb_1 := zb_1.frozen; have lb_1 := zb_1.lt
        clear hg
        go_wp2
        go_ret3
        refine ⟨by rw [HR.out]; first | rfl | go_num, ?_⟩
        repeat' (first | (with_reducible assumption) | (with_reducible exact Below.refl _ _) | (with_reducible refine Blk.drewN ?_ _) | (with_reducible refine RowIn.drewN ?_ _) | (with_reducible refine below_drewN ?_ _) | (with_reducible refine Blk.drew ?_) | (with_reducible refine RowIn.drew ?_) | (with_reducible refine Below.drew ?_) | (with_reducible refine Blk.new' ?_ ?_ <;> first | (with_reducible rfl) | (simp; done)) | (with_reducible refine Blk.alloc ?_ _) | (with_reducible refine RowIn.alloc ?_ _) | (with_reducible refine Below.alloc ?_ ?_ _) | (with_reducible apply Blk.set') | (with_reducible apply Blk.far') | (with_reducible refine RowIn.far' ?_ ?_ _) | (with_reducible refine Below.far' ?_ ?_ _) | rfl | omega | go_size)
      have t5 : decide (((bs.length : Nat) : Int) - (z : Int) < (32 : Int)) = false := decide_eq_false (by omega)
      have hzl : z + 32 ≤ bs.length := by omega
      have hy : y < 4294967296 := by rw [HY.out]; exact bval_take_lt _ _
      rw [if_neg h5] at HR1
      have HZ := Lib.hid hz
      clear hz h5
      rw [if_neg (by omega)] at HR1
      have hyw : IntKind.u32.wrap (y : Int) = (y : Int) := IntWalk.u32_in _ (by omega)
      obtain ⟨x, HX⟩ : ∃ x, Hid (x = partOf y k) := ⟨_, Lib.hid rfl⟩
      have hx48 := HX.out
      unfold partOf at hx48
      by_cases h6 : x < 48
      · have HR : Hid (rgR bs i k = (0, 0, 12)) := by unfold rgR; rw [HR1.out, if_pos (by omega)]; exact Lib.hid rfl
        have t6 : decide ((x : Int) < 48) = true := decide_eq_true (by omega)
        clear hx48
        go_enter Tryd.func69, Tryd.ntmps69
        go_wp2_with fail
        have hg := fun W (hr : Row .u8 W A m (pack bs)) => rugot_any A m c bs i W hr hc hl (by omega)
        rw [HG2.out] at hg
        replace hg := Lib.hid hg
        refine (hg.out _ (by exact RowIn.row (lo := 0) (hi := w.heap.size) (by repeat' (first | (with_reducible assumption) | (with_reducible exact Below.refl _ _) | (with_reducible refine Blk.drewN ?_ _) | (with_reducible refine RowIn.drewN ?_ _) | (with_reducible refine below_drewN ?_ _) | (with_reducible refine Blk.drew ?_) | (with_reducible refine RowIn.drew ?_) | (with_reducible refine Below.drew ?_) | (with_reducible refine Blk.new' ?_ ?_ <;> first | (with_reducible rfl) | (simp; done)) | (with_reducible refine Blk.alloc ?_ _) | (with_reducible refine RowIn.alloc ?_ _) | (with_reducible refine Below.alloc ?_ ?_ _) | (with_reducible apply Blk.set') | (with_reducible apply Blk.far') | (with_reducible refine RowIn.far' ?_ ?_ _) | (with_reducible refine Below.far' ?_ ?_ _) | rfl | omega | go_size)))).mono ?_
        rintro e w1 ⟨rfl, b1⟩
        have s1 := b1.size
        try simp only [World.size_alloc, World.size_setCell, World.size_drew, size_drewN] at s1
        obtain ⟨zb_1, rb_1, bb_1⟩ : Blk w1 (w.heap.size) 24 [.slice A m c, .int .i64 ((bs.length : Nat) : Int)] ∧ RowIn .u8 w1 (0) (w.heap.size) A m (pack bs) ∧ Below w.heap.size w w1 := by
          refine ⟨?_, ?_, ?_⟩
          all_goals repeat' (first | (with_reducible assumption) | (with_reducible exact Below.refl _ _) | (with_reducible refine Blk.after ?_ b1) | (with_reducible refine RowIn.belowS ?_ b1) | (with_reducible refine Below.after ?_ b1 ?_) | (with_reducible refine Blk.drewN ?_ _) | (with_reducible refine RowIn.drewN ?_ _) | (with_reducible refine below_drewN ?_ _) | (with_reducible refine Blk.drew ?_) | (with_reducible refine RowIn.drew ?_) | (with_reducible refine Below.drew ?_) | (with_reducible refine Blk.new' ?_ ?_ <;> first | (with_reducible rfl) | (simp; done)) | (with_reducible refine Blk.alloc ?_ _) | (with_reducible refine RowIn.alloc ?_ _) | (with_reducible refine Below.alloc ?_ ?_ _) | (with_reducible apply Blk.set') | (with_reducible apply Blk.far') | (with_reducible refine RowIn.far' ?_ ?_ _) | (with_reducible refine Below.far' ?_ ?_ _) | rfl | omega | go_size)
        clear b1
        have kb_1 := zb_1.cell; have fb_1 := zb_1.frozen; have lb_1 := zb_1.lt
        clear hg
        go_wp2_with fail
        refine (rvalue_any A m c bs z 32 _ (by exact RowIn.row (lo := 0) (hi := w.heap.size) (by repeat' (first | (with_reducible assumption) | (with_reducible exact Below.refl _ _) | (with_reducible refine Blk.drewN ?_ _) | (with_reducible refine RowIn.drewN ?_ _) | (with_reducible refine below_drewN ?_ _) | (with_reducible refine Blk.drew ?_) | (with_reducible refine RowIn.drew ?_) | (with_reducible refine Below.drew ?_) | (with_reducible refine Blk.new' ?_ ?_ <;> first | (with_reducible rfl) | (simp; done)) | (with_reducible refine Blk.alloc ?_ _) | (with_reducible refine RowIn.alloc ?_ _) | (with_reducible refine Below.alloc ?_ ?_ _) | (with_reducible apply Blk.set') | (with_reducible apply Blk.far') | (with_reducible refine RowIn.far' ?_ ?_ _) | (with_reducible refine Below.far' ?_ ?_ _) | rfl | omega | go_size))) hc hl hzl (by omega)).mono ?_
        rintro e w2 ⟨y2, rfl, HY2, b2⟩
        have s2 := b2.size
        try simp only [World.size_alloc, World.size_setCell, World.size_drew, size_drewN] at s2
        obtain ⟨zb_2, rb_2, bb_2⟩ : Blk w2 (w.heap.size) 24 [.slice A m c, .int .i64 ((bs.length : Nat) : Int)] ∧ RowIn .u8 w2 (0) (w.heap.size) A m (pack bs) ∧ Below w.heap.size w w2 := by
          refine ⟨?_, ?_, ?_⟩
          all_goals repeat' (first | (with_reducible assumption) | (with_reducible exact Below.refl _ _) | (with_reducible refine Blk.after ?_ b2) | (with_reducible refine RowIn.belowS ?_ b2) | (with_reducible refine Below.after ?_ b2 ?_) | (with_reducible refine Blk.drewN ?_ _) | (with_reducible refine RowIn.drewN ?_ _) | (with_reducible refine below_drewN ?_ _) | (with_reducible refine Blk.drew ?_) | (with_reducible refine RowIn.drew ?_) | (with_reducible refine Below.drew ?_) | (with_reducible refine Blk.new' ?_ ?_ <;> first | (with_reducible rfl) | (simp; done)) | (with_reducible refine Blk.alloc ?_ _) | (with_reducible refine RowIn.alloc ?_ _) | (with_reducible refine Below.alloc ?_ ?_ _) | (with_reducible apply Blk.set') | (with_reducible apply Blk.far') | (with_reducible refine RowIn.far' ?_ ?_ _) | (with_reducible refine Below.far' ?_ ?_ _) | rfl | omega | go_size)
        clear zb_1 rb_1 bb_1 kb_1 fb_1 lb_1 b2
        have kb_2 := zb_2.cell; have fb_2 := zb_2.frozen; have lb_2 := zb_2.lt
        obtain rfl : y = y2 := by rw [HY.out, HY2.out]
        clear HY2
        go_wp2_with fail
        refine (rpart_ok y k _ hy hk).mono ?_
        rintro e _ ⟨x2, rfl, HX2, rfl⟩
        obtain rfl : x = x2 := by rw [HX.out, HX2.out]
        go_wp2
        go_ret3
        refine ⟨by rw [HR.out]; first | rfl | go_num, ?_⟩
        repeat' (first | (with_reducible assumption) | (with_reducible exact Below.refl _ _) | (with_reducible refine Blk.drewN ?_ _) | (with_reducible refine RowIn.drewN ?_ _) | (with_reducible refine below_drewN ?_ _) | (with_reducible refine Blk.drew ?_) | (with_reducible refine RowIn.drew ?_) | (with_reducible refine Below.drew ?_) | (with_reducible refine Blk.new' ?_ ?_ <;> first | (with_reducible rfl) | (simp; done)) | (with_reducible refine Blk.alloc ?_ _) | (with_reducible refine RowIn.alloc ?_ _) | (with_reducible refine Below.alloc ?_ ?_ _) | (with_reducible apply Blk.set') | (with_reducible apply Blk.far') | (with_reducible refine RowIn.far' ?_ ?_ _) | (with_reducible refine Below.far' ?_ ?_ _) | rfl | omega | go_size)
      · have HR : Hid (rgR bs i k = ((y : Int), ((z + 32 : Nat) : Int), 0)) := by unfold rgR; rw [HR1.out, if_neg (by omega), HZ.out]; refine Lib.hid ?_; simp only [Prod.mk.injEq, true_and, and_true]; omega
        have t6 : ¬ ((x : Int) < 48) := by omega
        clear hx48
        go_enter Tryd.func69, Tryd.ntmps69
        go_wp2_with fail
        have hg := fun W (hr : Row .u8 W A m (pack bs)) => rugot_any A m c bs i W hr hc hl (by omega)
        rw [HG2.out] at hg
        replace hg := Lib.hid hg
        refine (hg.out _ (by exact RowIn.row (lo := 0) (hi := w.heap.size) (by repeat' (first | (with_reducible assumption) | (with_reducible exact Below.refl _ _) | (with_reducible refine Blk.drewN ?_ _) | (with_reducible refine RowIn.drewN ?_ _) | (with_reducible refine below_drewN ?_ _) | (with_reducible refine Blk.drew ?_) | (with_reducible refine RowIn.drew ?_) | (with_reducible refine Below.drew ?_) | (with_reducible refine Blk.new' ?_ ?_ <;> first | (with_reducible rfl) | (simp; done)) | (with_reducible refine Blk.alloc ?_ _) | (with_reducible refine RowIn.alloc ?_ _) | (with_reducible refine Below.alloc ?_ ?_ _) | (with_reducible apply Blk.set') | (with_reducible apply Blk.far') | (with_reducible refine RowIn.far' ?_ ?_ _) | (with_reducible refine Below.far' ?_ ?_ _) | rfl | omega | go_size)))).mono ?_
        rintro e w1 ⟨rfl, b1⟩
        have s1 := b1.size
        try simp only [World.size_alloc, World.size_setCell, World.size_drew, size_drewN] at s1
        obtain ⟨zb_1, rb_1, bb_1⟩ : Blk w1 (w.heap.size) 24 [.slice A m c, .int .i64 ((bs.length : Nat) : Int)] ∧ RowIn .u8 w1 (0) (w.heap.size) A m (pack bs) ∧ Below w.heap.size w w1 := by
          refine ⟨?_, ?_, ?_⟩
          all_goals repeat' (first | (with_reducible assumption) | (with_reducible exact Below.refl _ _) | (with_reducible refine Blk.after ?_ b1) | (with_reducible refine RowIn.belowS ?_ b1) | (with_reducible refine Below.after ?_ b1 ?_) | (with_reducible refine Blk.drewN ?_ _) | (with_reducible refine RowIn.drewN ?_ _) | (with_reducible refine below_drewN ?_ _) | (with_reducible refine Blk.drew ?_) | (with_reducible refine RowIn.drew ?_) | (with_reducible refine Below.drew ?_) | (with_reducible refine Blk.new' ?_ ?_ <;> first | (with_reducible rfl) | (simp; done)) | (with_reducible refine Blk.alloc ?_ _) | (with_reducible refine RowIn.alloc ?_ _) | (with_reducible refine Below.alloc ?_ ?_ _) | (with_reducible apply Blk.set') | (with_reducible apply Blk.far') | (with_reducible refine RowIn.far' ?_ ?_ _) | (with_reducible refine Below.far' ?_ ?_ _) | rfl | omega | go_size)
        clear b1
        have kb_1 := zb_1.cell; have fb_1 := zb_1.frozen; have lb_1 := zb_1.lt
        clear hg
        go_wp2_with fail
        refine (rvalue_any A m c bs z 32 _ (by exact RowIn.row (lo := 0) (hi := w.heap.size) (by repeat' (first | (with_reducible assumption) | (with_reducible exact Below.refl _ _) | (with_reducible refine Blk.drewN ?_ _) | (with_reducible refine RowIn.drewN ?_ _) | (with_reducible refine below_drewN ?_ _) | (with_reducible refine Blk.drew ?_) | (with_reducible refine RowIn.drew ?_) | (with_reducible refine Below.drew ?_) | (with_reducible refine Blk.new' ?_ ?_ <;> first | (with_reducible rfl) | (simp; done)) | (with_reducible refine Blk.alloc ?_ _) | (with_reducible refine RowIn.alloc ?_ _) | (with_reducible refine Below.alloc ?_ ?_ _) | (with_reducible apply Blk.set') | (with_reducible apply Blk.far') | (with_reducible refine RowIn.far' ?_ ?_ _) | (with_reducible refine Below.far' ?_ ?_ _) | rfl | omega | go_size))) hc hl hzl (by omega)).mono ?_
        rintro e w2 ⟨y2, rfl, HY2, b2⟩
        have s2 := b2.size
        try simp only [World.size_alloc, World.size_setCell, World.size_drew, size_drewN] at s2
        obtain ⟨zb_2, rb_2, bb_2⟩ : Blk w2 (w.heap.size) 24 [.slice A m c, .int .i64 ((bs.length : Nat) : Int)] ∧ RowIn .u8 w2 (0) (w.heap.size) A m (pack bs) ∧ Below w.heap.size w w2 := by
          refine ⟨?_, ?_, ?_⟩
          all_goals repeat' (first | (with_reducible assumption) | (with_reducible exact Below.refl _ _) | (with_reducible refine Blk.after ?_ b2) | (with_reducible refine RowIn.belowS ?_ b2) | (with_reducible refine Below.after ?_ b2 ?_) | (with_reducible refine Blk.drewN ?_ _) | (with_reducible refine RowIn.drewN ?_ _) | (with_reducible refine below_drewN ?_ _) | (with_reducible refine Blk.drew ?_) | (with_reducible refine RowIn.drew ?_) | (with_reducible refine Below.drew ?_) | (with_reducible refine Blk.new' ?_ ?_ <;> first | (with_reducible rfl) | (simp; done)) | (with_reducible refine Blk.alloc ?_ _) | (with_reducible refine RowIn.alloc ?_ _) | (with_reducible refine Below.alloc ?_ ?_ _) | (with_reducible apply Blk.set') | (with_reducible apply Blk.far') | (with_reducible refine RowIn.far' ?_ ?_ _) | (with_reducible refine Below.far' ?_ ?_ _) | rfl | omega | go_size)
        clear zb_1 rb_1 bb_1 kb_1 fb_1 lb_1 b2
        have kb_2 := zb_2.cell; have fb_2 := zb_2.frozen; have lb_2 := zb_2.lt
        obtain rfl : y = y2 := by rw [HY.out, HY2.out]
        clear HY2
        go_wp2_with fail
        refine (rpart_ok y k _ hy hk).mono ?_
        rintro e _ ⟨x2, rfl, HX2, rfl⟩
        obtain rfl : x = x2 := by rw [HX.out, HX2.out]
        go_wp2
        go_ret3
        refine ⟨by rw [HR.out]; first | rfl | go_num, ?_⟩
        repeat' (first | (with_reducible assumption) | (with_reducible exact Below.refl _ _) | (with_reducible refine Blk.drewN ?_ _) | (with_reducible refine RowIn.drewN ?_ _) | (with_reducible refine below_drewN ?_ _) | (with_reducible refine Blk.drew ?_) | (with_reducible refine RowIn.drew ?_) | (with_reducible refine Below.drew ?_) | (with_reducible refine Blk.new' ?_ ?_ <;> first | (with_reducible rfl) | (simp; done)) | (with_reducible refine Blk.alloc ?_ _) | (with_reducible refine RowIn.alloc ?_ _) | (with_reducible refine Below.alloc ?_ ?_ _) | (with_reducible apply Blk.set') | (with_reducible apply Blk.far') | (with_reducible refine RowIn.far' ?_ ?_ _) | (with_reducible refine Below.far' ?_ ?_ _) | rfl | omega | go_size)
    · have hrl : restLen q k = k := by unfold restLen; rw [if_neg h48]
      rw [hrl] at HR1 HY
      clear hrl
      have hq48 : q < 48 := by omega
      have t48 : ((q : Int) == 48) = false := beq_eq_false_iff_ne.2 (by omega)
      clear h48
      by_cases h5 : bs.length - i - u < k
      · have HR : Hid (rgR bs i k = (0, 0, 24)) := by unfold rgR; rw [HR1.out, if_pos h5]; exact Lib.hid rfl
        have t5 : decide (((bs.length : Nat) : Int) - (z : Int) < ((k : Nat) : Int)) = true := decide_eq_true (by omega)
        clear hz h5
        go_enter Tryd.func69, Tryd.ntmps69
        go_wp2_with fail
        have hg := fun W (hr : Row .u8 W A m (pack bs)) => rugot_any A m c bs i W hr hc hl (by omega)
        rw [HG2.out] at hg
        replace hg := Lib.hid hg
        refine (hg.out _ (by exact RowIn.row (lo := 0) (hi := w.heap.size) (by repeat' (first | (with_reducible assumption) | (with_reducible exact Below.refl _ _) | (with_reducible refine Blk.drewN ?_ _) | (with_reducible refine RowIn.drewN ?_ _) | (with_reducible refine below_drewN ?_ _) | (with_reducible refine Blk.drew ?_) | (with_reducible refine RowIn.drew ?_) | (with_reducible refine Below.drew ?_) | (with_reducible refine Blk.new' ?_ ?_ <;> first | (with_reducible rfl) | (simp; done)) | (with_reducible refine Blk.alloc ?_ _) | (with_reducible refine RowIn.alloc ?_ _) | (with_reducible refine Below.alloc ?_ ?_ _) | (with_reducible apply Blk.set') | (with_reducible apply Blk.far') | (with_reducible refine RowIn.far' ?_ ?_ _) | (with_reducible refine Below.far' ?_ ?_ _) | rfl | omega | go_size)))).mono ?_
        rintro e w1 ⟨rfl, b1⟩
        have s1 := b1.size
        try simp only [World.size_alloc, World.size_setCell, World.size_drew, size_drewN] at s1
        obtain ⟨zb_1, rb_1, bb_1⟩ : Blk w1 (w.heap.size) 24 [.slice A m c, .int .i64 ((bs.length : Nat) : Int)] ∧ RowIn .u8 w1 (0) (w.heap.size) A m (pack bs) ∧ Below w.heap.size w w1 := by
          refine ⟨?_, ?_, ?_⟩
          all_goals repeat' (first | (with_reducible assumption) | (with_reducible exact Below.refl _ _) | (with_reducible refine Blk.after ?_ b1) | (with_reducible refine RowIn.belowS ?_ b1) | (with_reducible refine Below.after ?_ b1 ?_) | (with_reducible refine Blk.drewN ?_ _) | (with_reducible refine RowIn.drewN ?_ _) | (with_reducible refine below_drewN ?_ _) | (with_reducible refine Blk.drew ?_) | (with_reducible refine RowIn.drew ?_) | (with_reducible refine Below.drew ?_) | (with_reducible refine Blk.new' ?_ ?_ <;> first | (with_reducible rfl) | (simp; done)) | (with_reducible refine Blk.alloc ?_ _) | (with_reducible refine RowIn.alloc ?_ _) | (with_reducible refine Below.alloc ?_ ?_ _) | (with_reducible apply Blk.set') | (with_reducible apply Blk.far') | (with_reducible refine RowIn.far' ?_ ?_ _) | (with_reducible refine Below.far' ?_ ?_ _) | rfl | omega | go_size)
        clear b1
        have kb_1 := zb_1.cell; have fb_1 := zb_1.frozen; have lb_1 := zb_1.lt
        clear hg
        go_wp2
        go_ret3
        refine ⟨by rw [HR.out]; first | rfl | go_num, ?_⟩
        repeat' (first | (with_reducible assumption) | (with_reducible exact Below.refl _ _) | (with_reducible refine Blk.drewN ?_ _) | (with_reducible refine RowIn.drewN ?_ _) | (with_reducible refine below_drewN ?_ _) | (with_reducible refine Blk.drew ?_) | (with_reducible refine RowIn.drew ?_) | (with_reducible refine Below.drew ?_) | (with_reducible refine Blk.new' ?_ ?_ <;> first | (with_reducible rfl) | (simp; done)) | (with_reducible refine Blk.alloc ?_ _) | (with_reducible refine RowIn.alloc ?_ _) | (with_reducible refine Below.alloc ?_ ?_ _) | (with_reducible apply Blk.set') | (with_reducible apply Blk.far') | (with_reducible refine RowIn.far' ?_ ?_ _) | (with_reducible refine Below.far' ?_ ?_ _) | rfl | omega | go_size)
      have t5 : decide (((bs.length : Nat) : Int) - (z : Int) < ((k : Nat) : Int)) = false := decide_eq_false (by omega)
      have hzl : z + k ≤ bs.length := by omega
      have hy : y < 2 ^ k := by rw [HY.out]; exact bval_take_lt _ _
      rw [if_neg h5] at HR1
      have HZ := Lib.hid hz
      clear hz h5
      obtain ⟨P, hP⟩ : ∃ P, P = 2 ^ k := ⟨_, rfl⟩
      have hP2 : P ≤ 16777216 := by rw [hP]; exact Nat.le_trans (Nat.pow_le_pow_right (by omega) hk) (by decide)
      rw [← hP] at hy HR1
      have hx0 : q * P ≤ 47 * 16777216 := Nat.mul_le_mul (by omega) hP2
      obtain ⟨x, hx⟩ : ∃ x, x = q * P := ⟨_, rfl⟩
      rw [← hx] at hx0 HR1
      have hxi : (q : Int) * (P : Int) = (x : Int) := by rw [hx]; exact (Int.natCast_mul q P).symm
      have HP := Lib.hid hP
      clear hP hx
      rw [if_pos hq48] at HR1
      obtain ⟨v, hv⟩ : ∃ v, v = x + y := ⟨_, rfl⟩
      have hvi : (x : Int) + (y : Int) = (v : Int) := by omega
      have hvb : v < 4294967296 := by omega
      rw [← hv] at HR1
      clear hv
      have HR : Hid (rgR bs i k = ((v : Int), ((z + k : Nat) : Int), 0)) := by unfold rgR; rw [HR1.out, HZ.out]; refine Lib.hid ?_; simp only [Prod.mk.injEq, true_and, and_true]; omega
      go_enter Tryd.func69, Tryd.ntmps69
      go_wp2_with fail
      have hg := fun W (hr : Row .u8 W A m (pack bs)) => rugot_any A m c bs i W hr hc hl (by omega)
      rw [HG2.out] at hg
      replace hg := Lib.hid hg
      refine (hg.out _ (by exact RowIn.row (lo := 0) (hi := w.heap.size) (by repeat' (first | (with_reducible assumption) | (with_reducible exact Below.refl _ _) | (with_reducible refine Blk.drewN ?_ _) | (with_reducible refine RowIn.drewN ?_ _) | (with_reducible refine below_drewN ?_ _) | (with_reducible refine Blk.drew ?_) | (with_reducible refine RowIn.drew ?_) | (with_reducible refine Below.drew ?_) | (with_reducible refine Blk.new' ?_ ?_ <;> first | (with_reducible rfl) | (simp; done)) | (with_reducible refine Blk.alloc ?_ _) | (with_reducible refine RowIn.alloc ?_ _) | (with_reducible refine Below.alloc ?_ ?_ _) | (with_reducible apply Blk.set') | (with_reducible apply Blk.far') | (with_reducible refine RowIn.far' ?_ ?_ _) | (with_reducible refine Below.far' ?_ ?_ _) | rfl | omega | go_size)))).mono ?_
      rintro e w1 ⟨rfl, b1⟩
      have s1 := b1.size
      try simp only [World.size_alloc, World.size_setCell, World.size_drew, size_drewN] at s1
      obtain ⟨zb_1, rb_1, bb_1⟩ : Blk w1 (w.heap.size) 24 [.slice A m c, .int .i64 ((bs.length : Nat) : Int)] ∧ RowIn .u8 w1 (0) (w.heap.size) A m (pack bs) ∧ Below w.heap.size w w1 := by
        refine ⟨?_, ?_, ?_⟩
        all_goals repeat' (first | (with_reducible assumption) | (with_reducible exact Below.refl _ _) | (with_reducible refine Blk.after ?_ b1) | (with_reducible refine RowIn.belowS ?_ b1) | (with_reducible refine Below.after ?_ b1 ?_) | (with_reducible refine Blk.drewN ?_ _) | (with_reducible refine RowIn.drewN ?_ _) | (with_reducible refine below_drewN ?_ _) | (with_reducible refine Blk.drew ?_) | (with_reducible refine RowIn.drew ?_) | (with_reducible refine Below.drew ?_) | (with_reducible refine Blk.new' ?_ ?_ <;> first | (with_reducible rfl) | (simp; done)) | (with_reducible refine Blk.alloc ?_ _) | (with_reducible refine RowIn.alloc ?_ _) | (with_reducible refine Below.alloc ?_ ?_ _) | (with_reducible apply Blk.set') | (with_reducible apply Blk.far') | (with_reducible refine RowIn.far' ?_ ?_ _) | (with_reducible refine Below.far' ?_ ?_ _) | rfl | omega | go_size)
      clear b1
      have kb_1 := zb_1.cell; have fb_1 := zb_1.frozen; have lb_1 := zb_1.lt
      clear hg
      go_wp2_with fail
      refine (rvalue_any A m c bs z k _ (by exact RowIn.row (lo := 0) (hi := w.heap.size) (by repeat' (first | (with_reducible assumption) | (with_reducible exact Below.refl _ _) | (with_reducible refine Blk.drewN ?_ _) | (with_reducible refine RowIn.drewN ?_ _) | (with_reducible refine below_drewN ?_ _) | (with_reducible refine Blk.drew ?_) | (with_reducible refine RowIn.drew ?_) | (with_reducible refine Below.drew ?_) | (with_reducible refine Blk.new' ?_ ?_ <;> first | (with_reducible rfl) | (simp; done)) | (with_reducible refine Blk.alloc ?_ _) | (with_reducible refine RowIn.alloc ?_ _) | (with_reducible refine Below.alloc ?_ ?_ _) | (with_reducible apply Blk.set') | (with_reducible apply Blk.far') | (with_reducible refine RowIn.far' ?_ ?_ _) | (with_reducible refine Below.far' ?_ ?_ _) | rfl | omega | go_size))) hc hl hzl (by omega)).mono ?_
      rintro e w2 ⟨y2, rfl, HY2, b2⟩
      have s2 := b2.size
      try simp only [World.size_alloc, World.size_setCell, World.size_drew, size_drewN] at s2
      obtain ⟨zb_2, rb_2, bb_2⟩ : Blk w2 (w.heap.size) 24 [.slice A m c, .int .i64 ((bs.length : Nat) : Int)] ∧ RowIn .u8 w2 (0) (w.heap.size) A m (pack bs) ∧ Below w.heap.size w w2 := by
        refine ⟨?_, ?_, ?_⟩
        all_goals repeat' (first | (with_reducible assumption) | (with_reducible exact Below.refl _ _) | (with_reducible refine Blk.after ?_ b2) | (with_reducible refine RowIn.belowS ?_ b2) | (with_reducible refine Below.after ?_ b2 ?_) | (with_reducible refine Blk.drewN ?_ _) | (with_reducible refine RowIn.drewN ?_ _) | (with_reducible refine below_drewN ?_ _) | (with_reducible refine Blk.drew ?_) | (with_reducible refine RowIn.drew ?_) | (with_reducible refine Below.drew ?_) | (with_reducible refine Blk.new' ?_ ?_ <;> first | (with_reducible rfl) | (simp; done)) | (with_reducible refine Blk.alloc ?_ _) | (with_reducible refine RowIn.alloc ?_ _) | (with_reducible refine Below.alloc ?_ ?_ _) | (with_reducible apply Blk.set') | (with_reducible apply Blk.far') | (with_reducible refine RowIn.far' ?_ ?_ _) | (with_reducible refine Below.far' ?_ ?_ _) | rfl | omega | go_size)
      clear zb_1 rb_1 bb_1 kb_1 fb_1 lb_1 b2
      have kb_2 := zb_2.cell; have fb_2 := zb_2.frozen; have lb_2 := zb_2.lt
      obtain rfl : y = y2 := by rw [HY.out, HY2.out]
      clear HY2
      go_wp2_with fail
      refine (rpower_ok k _ (by omega)).mono ?_
      rintro e _ ⟨P2, rfl, HP2, rfl⟩
      obtain rfl : P = P2 := by rw [HP.out, HP2.out]
      go_wp2
      go_ret3
      refine ⟨by rw [HR.out]; first | rfl | go_num, ?_⟩
      repeat' (first | (with_reducible assumption) | (with_reducible exact Below.refl _ _) | (with_reducible refine Blk.drewN ?_ _) | (with_reducible refine RowIn.drewN ?_ _) | (with_reducible refine below_drewN ?_ _) | (with_reducible refine Blk.drew ?_) | (with_reducible refine RowIn.drew ?_) | (with_reducible refine Below.drew ?_) | (with_reducible refine Blk.new' ?_ ?_ <;> first | (with_reducible rfl) | (simp; done)) | (with_reducible refine Blk.alloc ?_ _) | (with_reducible refine RowIn.alloc ?_ _) | (with_reducible refine Below.alloc ?_ ?_ _) | (with_reducible apply Blk.set') | (with_reducible apply Blk.far') | (with_reducible refine RowIn.far' ?_ ?_ _) | (with_reducible refine Below.far' ?_ ?_ _) | rfl | omega | go_size)


theorem rgR_rrR {bs : List Bool} {i k : Nat} (hk : k ≤ 24) : rrR bs (i : Nat) (k : Nat) = rgR bs i k := by
  unfold rrR rgR
  rw [if_neg (by omega), if_neg (by omega), Int.toNat_natCast, Int.toNat_natCast]
  cases readR (bs.drop i) k with
  | err e => rfl
  | ok v n => simp
end Go.Proofs.YtppilidcjlnmoaaDoor
