/-
  Texts joined (ResC, LawRZ, RowV).
-/
import Derived.Laws.CopyOwn
import Derived.Test.YtpohaikbbfochaaDoorPk10
/-
  Contract of resume.Feed.
-/
namespace Go.Proofs.YtpohaikbbfochaaDoor
open Go.RowKit Cad Cad.Bit Cad.Code
set_option linter.unusedVariables false
set_option linter.unusedSimpArgs false


/-- What Feed ends in. -/
def RetF (w : World) (g : Fed) (e : Ending) (w' : World) : Prop :=
  Below w.heap.size w w' ∧ match g with
    | .ok vs n d r => ∃ (p0 p1 q0 q1 m c k dd : Nat) (A B : Option Addr) (bs : List Bool) (zs : List Int), e = .returned (.tuple #[.agg #[.int .i64 (n : Int), .int .i64 (p0 : Int), .int .i64 (p1 : Int), .int .u64 (q0 : Int), .int .u64 (q1 : Int), .slice A m c, .int .i64 (((bs.length : Nat)) : Int)], .slice B k dd, .int .i64 0]) ∧ Hid ((⟨p0, p1, q0, q1⟩ : Dual) = d) ∧ (m ≤ c ∧ c ≤ 9223372036854775807) ∧ Hid (bs = r) ∧ RowIn .u8 w' w.heap.size w'.heap.size A m (pack bs) ∧ (k ≤ dd ∧ dd ≤ 9223372036854775807) ∧ Hid (zs = ints vs) ∧ RowIn .u32 w' w.heap.size w'.heap.size B k zs
    | .err er => e = .returned (.tuple #[.agg #[.int .i64 0, .int .i64 0, .int .i64 0, .int .u64 0, .int .u64 0, .slice none 0 0, .int .i64 0], .slice none 0 0, .int .i64 (er : Int)])
theorem gfeed_err {w : World} {er : Nat} {e : Ending} {w' : World} (h : e = .returned (.tuple #[.agg #[.int .i64 0, .int .i64 0, .int .i64 0, .int .u64 0, .int .u64 0, .slice none 0 0, .int .i64 0], .slice none 0 0, .int .i64 (er : Int)]) ∧ Below w.heap.size w w') : RetF w (.err er) e w' := ⟨h.2, h.1⟩

set_option maxRecDepth 100000 in
set_option maxHeartbeats 1000000 in
theorem rfeed_none (L p0 p1 q0 q1 N : Int) (m c : Nat) (A : Option Addr) (xs : List Int) (B : Option Addr) (nb cb : Nat) (w : World) (hL : -9223372036854775808 ≤ L ∧ L ≤ 9223372036854775807) (h2 : 0 ≤ q0) (h3 : 0 ≤ q1) (ha : Row .u8 w A m xs) (hb : Within 0 255 xs) (hc : m ≤ c ∧ c ≤ 9223372036854775807) (ht : Tab w) (hs : ¬ RS L p0 p1 q0 q1 xs N) :
    Calls Tryd.prog 28 #[.agg #[.int .i64 (L : Int), .int .i64 (p0 : Int), .int .i64 (p1 : Int), .int .u64 (q0 : Int), .int .u64 (q1 : Int), .slice A m c, .int .i64 (N : Int)], .slice B nb cb] w (RetF w (.err 8)) := by
  have hri := ha.rowIn
  have hti : RowIn .u8 w 0 w.heap.size (some ⟨0, 0, none⟩) 64 dbTab := ht.rowIn
  have HN := Lib.hid hs
  clear hs
  go_enter Tryd.func28, Tryd.ntmps28
  go_wp2_with fail
  refine (rsc_any L p0 p1 q0 q1 N m c A xs _ hL h2 h3 (by exact RowIn.row (lo := 0) (hi := w.heap.size) (by repeat' (first | (with_reducible assumption) | (with_reducible exact Below.refl _ _) | (with_reducible refine Blk.drewN ?_ _) | (with_reducible refine RowIn.drewN ?_ _) | (with_reducible refine below_drewN ?_ _) | (with_reducible refine Blk.drew ?_) | (with_reducible refine RowIn.drew ?_) | (with_reducible refine Below.drew ?_) | (with_reducible refine Blk.new' ?_ ?_ <;> first | (with_reducible rfl) | (simp; done)) | (with_reducible refine Blk.alloc ?_ _) | (with_reducible refine RowIn.alloc ?_ _) | (with_reducible refine Below.alloc ?_ ?_ _) | (with_reducible apply Blk.set') | (with_reducible apply Blk.far') | (with_reducible refine RowIn.far' ?_ ?_ _) | (with_reducible refine Below.far' ?_ ?_ _) | rfl | omega | go_size))) hb hc (by exact RowIn.row (lo := 0) (hi := w.heap.size) (by repeat' (first | (with_reducible assumption) | (with_reducible exact Below.refl _ _) | (with_reducible refine Blk.drewN ?_ _) | (with_reducible refine RowIn.drewN ?_ _) | (with_reducible refine below_drewN ?_ _) | (with_reducible refine Blk.drew ?_) | (with_reducible refine RowIn.drew ?_) | (with_reducible refine Below.drew ?_) | (with_reducible refine Blk.new' ?_ ?_ <;> first | (with_reducible rfl) | (simp; done)) | (with_reducible refine Blk.alloc ?_ _) | (with_reducible refine RowIn.alloc ?_ _) | (with_reducible refine Below.alloc ?_ ?_ _) | (with_reducible apply Blk.set') | (with_reducible apply Blk.far') | (with_reducible refine RowIn.far' ?_ ?_ _) | (with_reducible refine Below.far' ?_ ?_ _) | rfl | omega | go_size))) HN.out).mono ?_
  rintro e w1 ⟨rfl, b1⟩
  have s1 := b1.size
  try simp only [World.size_alloc, World.size_setCell, World.size_drew, size_drewN] at s1
  obtain ⟨zs_1, zr_1, ra_1, rt_1, bb_1⟩ : Blk w1 (w.heap.size) 64 [.int .i64 (L : Int), .int .i64 (p0 : Int), .int .i64 (p1 : Int), .int .u64 (q0 : Int), .int .u64 (q1 : Int), .slice A m c, .int .i64 (N : Int)] ∧ Blk w1 (w.heap.size + 1) 64 [.int .i64 0, .int .i64 0, .int .i64 0, .int .u64 0, .int .u64 0, .slice none 0 0, .int .i64 0] ∧ RowIn .u8 w1 (0) (w.heap.size) A m xs ∧ RowIn .u8 w1 (0) (w.heap.size) (some ⟨0, 0, none⟩) 64 dbTab ∧ Below w.heap.size w w1 := by
    refine ⟨?_, ?_, ?_, ?_, ?_⟩
    all_goals repeat' (first | (with_reducible assumption) | (with_reducible exact Below.refl _ _) | (with_reducible refine Blk.drewN ?_ _) | (with_reducible refine RowIn.drewN ?_ _) | (with_reducible refine below_drewN ?_ _) | (with_reducible refine Blk.drew ?_) | (with_reducible refine RowIn.drew ?_) | (with_reducible refine Below.drew ?_) | (with_reducible refine Blk.new' ?_ ?_ <;> first | (with_reducible rfl) | (simp; done)) | (with_reducible refine Blk.alloc ?_ _) | (with_reducible refine RowIn.alloc ?_ _) | (with_reducible refine Below.alloc ?_ ?_ _) | (with_reducible apply Blk.set') | (with_reducible apply Blk.far') | (with_reducible refine RowIn.far' ?_ ?_ _) | (with_reducible refine Below.far' ?_ ?_ _) | (with_reducible refine Blk.after ?_ b1) | (with_reducible refine RowIn.belowS ?_ b1) | (with_reducible refine Below.after ?_ b1 ?_) | rfl | omega | go_size)
  clear b1
  have ks_1 := zs_1.cell; have fs_1 := zs_1.frozen; have ls_1 := zs_1.lt
  have kr_1 := zr_1.cell; have fr_1 := zr_1.frozen; have lr_1 := zr_1.lt
  go_wp2
  refine bodyPost_ret (v := .tuple #[.agg #[.int .i64 0, .int .i64 0, .int .i64 0, .int .u64 0, .int .u64 0, .slice none 0 0, .int .i64 0], .slice none 0 0, .int .i64 8]) (by simp [results, Tryd.results28, go_sem, kr_1, lr_1, fr_1]) rfl ?_
  refine gfeed_err ⟨rfl, ?_⟩
  repeat' (first | (with_reducible assumption) | (with_reducible exact Below.refl _ _) | (with_reducible refine Blk.drewN ?_ _) | (with_reducible refine RowIn.drewN ?_ _) | (with_reducible refine below_drewN ?_ _) | (with_reducible refine Blk.drew ?_) | (with_reducible refine RowIn.drew ?_) | (with_reducible refine Below.drew ?_) | (with_reducible refine Blk.new' ?_ ?_ <;> first | (with_reducible rfl) | (simp; done)) | (with_reducible refine Blk.alloc ?_ _) | (with_reducible refine RowIn.alloc ?_ _) | (with_reducible refine Below.alloc ?_ ?_ _) | (with_reducible apply Blk.set') | (with_reducible apply Blk.far') | (with_reducible refine RowIn.far' ?_ ?_ _) | (with_reducible refine Below.far' ?_ ?_ _) | rfl | omega | go_size)


set_option maxRecDepth 100000 in
set_option maxHeartbeats 1000000 in
theorem rfeed_many (n x0 x1 y0 y1 m c : Nat) (A : Option Addr) (bs : List Bool) (D : Option Addr) (nb cb : Nat) (xs : List Int) (w : World) (hn : n ≤ 4000) (hf : FOk n ⟨x0, x1, y0, y1⟩ bs) (ha : Row .u8 w A m (pack bs)) (hc : m ≤ c ∧ c ≤ 9223372036854775807) (hd : Row .u8 w D nb xs) (hdc : nb ≤ cb ∧ cb ≤ 9223372036854775807) (hx : Within 0 255 xs) (ht : Tab w) (hb : 41000 < nb) :
    Calls Tryd.prog 28 #[.agg #[.int .i64 (n : Int), .int .i64 (x0 : Int), .int .i64 (x1 : Int), .int .u64 (y0 : Int), .int .u64 (y1 : Int), .slice A m c, .int .i64 (((bs.length : Nat)) : Int)], .slice D nb cb] w (RetF w (.err 4)) := by
  have hri := ha.rowIn
  have hti : RowIn .u8 w 0 w.heap.size (some ⟨0, 0, none⟩) 64 dbTab := ht.rowIn
  have t1 : decide ((41000 : Int) < (nb : Int)) = true := decide_eq_true (by omega)
  have hbl := hf.short
  have HF := Lib.hid hf
  clear hf
  go_enter Tryd.func28, Tryd.ntmps28
  go_wp2_with fail
  refine (rsc_val n x0 x1 y0 y1 m c A bs 0 _ hn HF.out.1 (by exact RowIn.row (lo := 0) (hi := w.heap.size) (by repeat' (first | (with_reducible assumption) | (with_reducible exact Below.refl _ _) | (with_reducible refine Blk.drewN ?_ _) | (with_reducible refine RowIn.drewN ?_ _) | (with_reducible refine below_drewN ?_ _) | (with_reducible refine Blk.drew ?_) | (with_reducible refine RowIn.drew ?_) | (with_reducible refine Below.drew ?_) | (with_reducible refine Blk.new' ?_ ?_ <;> first | (with_reducible rfl) | (simp; done)) | (with_reducible refine Blk.alloc ?_ _) | (with_reducible refine RowIn.alloc ?_ _) | (with_reducible refine Below.alloc ?_ ?_ _) | (with_reducible apply Blk.set') | (with_reducible apply Blk.far') | (with_reducible refine RowIn.far' ?_ ?_ _) | (with_reducible refine Below.far' ?_ ?_ _) | rfl | omega | go_size))) hc (by omega) (by exact RowIn.row (lo := 0) (hi := w.heap.size) (by repeat' (first | (with_reducible assumption) | (with_reducible exact Below.refl _ _) | (with_reducible refine Blk.drewN ?_ _) | (with_reducible refine RowIn.drewN ?_ _) | (with_reducible refine below_drewN ?_ _) | (with_reducible refine Blk.drew ?_) | (with_reducible refine RowIn.drew ?_) | (with_reducible refine Below.drew ?_) | (with_reducible refine Blk.new' ?_ ?_ <;> first | (with_reducible rfl) | (simp; done)) | (with_reducible refine Blk.alloc ?_ _) | (with_reducible refine RowIn.alloc ?_ _) | (with_reducible refine Below.alloc ?_ ?_ _) | (with_reducible apply Blk.set') | (with_reducible apply Blk.far') | (with_reducible refine RowIn.far' ?_ ?_ _) | (with_reducible refine Below.far' ?_ ?_ _) | rfl | omega | go_size))) (Or.inl ⟨rfl, HF.out⟩)).mono ?_
  rintro e w1 ⟨rfl, b1⟩
  have s1 := b1.size
  try simp only [World.size_alloc, World.size_setCell, World.size_drew, size_drewN] at s1
  obtain ⟨zs_1, zr_1, ra_1, rt_1, bb_1⟩ : Blk w1 (w.heap.size) 64 [.int .i64 (n : Int), .int .i64 (x0 : Int), .int .i64 (x1 : Int), .int .u64 (y0 : Int), .int .u64 (y1 : Int), .slice A m c, .int .i64 (((bs.length : Nat)) : Int)] ∧ Blk w1 (w.heap.size + 1) 64 [.int .i64 0, .int .i64 0, .int .i64 0, .int .u64 0, .int .u64 0, .slice none 0 0, .int .i64 0] ∧ RowIn .u8 w1 (0) (w.heap.size) A m (pack bs) ∧ RowIn .u8 w1 (0) (w.heap.size) (some ⟨0, 0, none⟩) 64 dbTab ∧ Below w.heap.size w w1 := by
    refine ⟨?_, ?_, ?_, ?_, ?_⟩
    all_goals repeat' (first | (with_reducible assumption) | (with_reducible exact Below.refl _ _) | (with_reducible refine Blk.drewN ?_ _) | (with_reducible refine RowIn.drewN ?_ _) | (with_reducible refine below_drewN ?_ _) | (with_reducible refine Blk.drew ?_) | (with_reducible refine RowIn.drew ?_) | (with_reducible refine Below.drew ?_) | (with_reducible refine Blk.new' ?_ ?_ <;> first | (with_reducible rfl) | (simp; done)) | (with_reducible refine Blk.alloc ?_ _) | (with_reducible refine RowIn.alloc ?_ _) | (with_reducible refine Below.alloc ?_ ?_ _) | (with_reducible apply Blk.set') | (with_reducible apply Blk.far') | (with_reducible refine RowIn.far' ?_ ?_ _) | (with_reducible refine Below.far' ?_ ?_ _) | (with_reducible refine Blk.after ?_ b1) | (with_reducible refine RowIn.belowS ?_ b1) | (with_reducible refine Below.after ?_ b1 ?_) | rfl | omega | go_size)
  clear b1
  have ks_1 := zs_1.cell; have fs_1 := zs_1.frozen; have ls_1 := zs_1.lt
  have kr_1 := zr_1.cell; have fr_1 := zr_1.frozen; have lr_1 := zr_1.lt
  go_wp2
  refine bodyPost_ret (v := .tuple #[.agg #[.int .i64 0, .int .i64 0, .int .i64 0, .int .u64 0, .int .u64 0, .slice none 0 0, .int .i64 0], .slice none 0 0, .int .i64 4]) (by simp [results, Tryd.results28, go_sem, kr_1, lr_1, fr_1]) rfl ?_
  refine gfeed_err ⟨rfl, ?_⟩
  repeat' (first | (with_reducible assumption) | (with_reducible exact Below.refl _ _) | (with_reducible refine Blk.drewN ?_ _) | (with_reducible refine RowIn.drewN ?_ _) | (with_reducible refine below_drewN ?_ _) | (with_reducible refine Blk.drew ?_) | (with_reducible refine RowIn.drew ?_) | (with_reducible refine Below.drew ?_) | (with_reducible refine Blk.new' ?_ ?_ <;> first | (with_reducible rfl) | (simp; done)) | (with_reducible refine Blk.alloc ?_ _) | (with_reducible refine RowIn.alloc ?_ _) | (with_reducible refine Below.alloc ?_ ?_ _) | (with_reducible apply Blk.set') | (with_reducible apply Blk.far') | (with_reducible refine RowIn.far' ?_ ?_ _) | (with_reducible refine Below.far' ?_ ?_ _) | rfl | omega | go_size)


theorem map_u8 (xs : List Int) (j : Nat) {v : Value} (h : (xs.map (Value.int .u8))[j]? = some v) : j < xs.length ∧ v = .int .u8 (nth xs j) := map_getElem? h
theorem oneCell_u8 (xs : List Int) : ∀ v ∈ xs.map (Value.int .u8), v.oneCell' = true := fun v hv => by
  obtain ⟨x, _, rfl⟩ := List.mem_map.1 hv
  rfl
/-- A row that the first cells of a block are. -/
theorem row_first {w : World} {g : Nat} {t : TypeId} {xs : List Int} {l : List Value} (h : Blk w g t (xs.map (Value.int .u8) ++ l)) : RowIn .u8 w g (g + 1) (some ⟨g, 0, none⟩) xs.length xs :=
  ⟨rfl, fun _ => ⟨g, 0, rfl, Nat.le_refl _, Nat.lt_succ_self _, fun j hj => by rw [Nat.zero_add, h.cell, List.getElem?_append_left (by simpa using hj), getElem?_map_nth hj]⟩⟩
theorem within_piece {xs : List Int} (h : Within 0 255 xs) (i k : Nat) : Within 0 255 ((xs.drop i).take k) := (h.drop i).take k
theorem copy_run {w : World} {g : Nat} {t : TypeId} (cur cs : List Value) (L B : Nat) (hg : Blk w g t cur) (h1 : ∀ v ∈ cs, v.oneCell' = true) (hfit : cs.length ≤ cur.length) (hB : B ≤ g) :
    ∃ w', Blk w' g t (cs ++ cur.drop cs.length) ∧ Below B w w' ∧ ∀ (sp : Option Addr) (sLen sCap : Nat), cs.length = Nat.min sLen L → (0 < cs.length → ∃ ad, sp = some ad ∧ ∀ q v, cs[q]? = some v → w.cell? (ad.add q) = some v) →
      (Builtin.copy_ #[24, 24] 3 #[.slice (some ⟨g, 0, none⟩) L L, .slice sp sLen sCap]).run Tryd.prog w = .ok (.int .i64 (cs.length : Int)) w' := by
  by_cases h0 : cs.length = 0
  · refine ⟨w, ?_, Below.refl _ _, fun sp sLen sCap hn _ => ?_⟩
    · rw [List.eq_nil_of_length_eq_zero h0]; simpa using hg
    · have h := run_copy_none (P := Tryd.prog) w 24 24 3 5 (some ⟨g, 0, none⟩) sp L L sLen sCap Tryd.underlying24 (by kernel_rfl) (by omega)
      rw [h, h0]; rfl
  · refine ⟨w.setRow g (cs ++ cur.drop cs.length).toArray, ?_, below_setRow (Below.refl _ _) hB _, fun sp sLen sCap hn hs => ?_⟩
    · exact setRow_heap w g _ _ t _ hg
    · obtain ⟨ad, rfl, hc⟩ := hs (by omega)
      have h := run_copy_row (P := Tryd.prog) w 24 24 3 5 g 0 L L ad sLen sCap cur.toArray t cs Tryd.underlying24 (by kernel_rfl) hg hn hc (by simpa using hfit) h1
      rw [h]; simp [goInt]
theorem splice0 (L cs : List Value) : splice L 0 cs = cs ++ L.drop cs.length := by unfold splice; rw [List.take_zero, List.nil_append, Nat.zero_add]

set_option maxRecDepth 100000 in
set_option maxHeartbeats 8000000 in
theorem rfeed_ok (n x0 x1 y0 y1 m c : Nat) (A : Option Addr) (bs : List Bool) (D : Option Addr) (nb cb : Nat) (xs : List Int) (w : World) (hn : n ≤ 4000) (hf : FOk n ⟨x0, x1, y0, y1⟩ bs) (ha : Row .u8 w A m (pack bs)) (hc : m ≤ c ∧ c ≤ 9223372036854775807) (hd : Row .u8 w D nb xs) (hdc : nb ≤ cb ∧ cb ≤ 9223372036854775807) (hx : Within 0 255 xs) (ht : Tab w) (hb : nb ≤ 41000) :
    Calls Tryd.prog 28 #[.agg #[.int .i64 (n : Int), .int .i64 (x0 : Int), .int .i64 (x1 : Int), .int .u64 (y0 : Int), .int .u64 (y1 : Int), .slice A m c, .int .i64 (((bs.length : Nat)) : Int)], .slice D nb cb] w (RetF w (feed n ⟨x0, x1, y0, y1⟩ (bs ++ unpack xs))) := by
  have hri := ha.rowIn
  have hdi := hd.rowIn
  have HXL := Lib.hid hd.len
  have hti : RowIn .u8 w 0 w.heap.size (some ⟨0, 0, none⟩) 64 dbTab := ht.rowIn
  have htl : 0 < w.heap.size := by
    obtain ⟨b, off, e, h1, h2, _⟩ := ht.rowIn.2 (by omega)
    injection e with e; injection e with e _ _; omega
  have t1 : decide ((41000 : Int) < (nb : Int)) = false := decide_eq_false (by omega)
  have hbl := hf.short
  have HF := Lib.hid hf
  have HFO0 := Lib.hid hf
  clear hf
  have hmf : ∀ (fn : Fn) (first cap : Array Value) (w : World), (Instr.makeFunc fn first cap).run Tryd.prog w = .ok (.func fn first cap) w := fun _ _ _ _ => rfl
  have hmk : ∀ W, (Instr.makeSlice 24 (.int .i64 64) (.int .i64 64)).run Tryd.prog W = .ok (.slice (some ⟨W.heap.size, 0, none⟩) 64 64) (W.alloc (.cells (zeroRow .u8 64) 5)) := fun W => run_mk u8E 64 (by omega) .i64 .i64 W
  obtain ⟨T, hT⟩ : ∃ T, T = nb / 64 + 1 := ⟨_, rfl⟩
  have hTi : (nb : Int) / 64 + 1 = (T : Int) := by omega
  have hT1 : 64 * T ≤ nb + 64 := by omega
  have hT2 : nb < 64 * T := by omega
  clear hT
  go_enter Tryd.func28, Tryd.ntmps28
  go_wp2_with fail
  refine (rsc_val n x0 x1 y0 y1 m c A bs 0 _ hn HF.out.1 (by exact RowIn.row (lo := 0) (hi := w.heap.size) (by repeat' (first | (with_reducible assumption) | (with_reducible exact Below.refl _ _) | (with_reducible refine Blk.drewN ?_ _) | (with_reducible refine RowIn.drewN ?_ _) | (with_reducible refine below_drewN ?_ _) | (with_reducible refine Blk.drew ?_) | (with_reducible refine RowIn.drew ?_) | (with_reducible refine Below.drew ?_) | (with_reducible refine Blk.new' ?_ ?_ <;> first | (with_reducible rfl) | (simp; done)) | (with_reducible refine Blk.alloc ?_ _) | (with_reducible refine RowIn.alloc ?_ _) | (with_reducible refine Below.alloc ?_ ?_ _) | (with_reducible apply Blk.set') | (with_reducible apply Blk.far') | (with_reducible refine RowIn.far' ?_ ?_ _) | (with_reducible refine Below.far' ?_ ?_ _) | rfl | omega | go_size))) hc (by omega) (by exact RowIn.row (lo := 0) (hi := w.heap.size) (by repeat' (first | (with_reducible assumption) | (with_reducible exact Below.refl _ _) | (with_reducible refine Blk.drewN ?_ _) | (with_reducible refine RowIn.drewN ?_ _) | (with_reducible refine below_drewN ?_ _) | (with_reducible refine Blk.drew ?_) | (with_reducible refine RowIn.drew ?_) | (with_reducible refine Below.drew ?_) | (with_reducible refine Blk.new' ?_ ?_ <;> first | (with_reducible rfl) | (simp; done)) | (with_reducible refine Blk.alloc ?_ _) | (with_reducible refine RowIn.alloc ?_ _) | (with_reducible refine Below.alloc ?_ ?_ _) | (with_reducible apply Blk.set') | (with_reducible apply Blk.far') | (with_reducible refine RowIn.far' ?_ ?_ _) | (with_reducible refine Below.far' ?_ ?_ _) | rfl | omega | go_size))) (Or.inl ⟨rfl, HF.out⟩)).mono ?_
  rintro e w1 ⟨rfl, b1⟩
  have s1 := b1.size
  try simp only [World.size_alloc, World.size_setCell, World.size_drew, size_drewN] at s1
  obtain ⟨zs_1, zr_1, ra_1, rt_1, rd_1, bb_1⟩ : Blk w1 (w.heap.size) 64 [.int .i64 (n : Int), .int .i64 (x0 : Int), .int .i64 (x1 : Int), .int .u64 (y0 : Int), .int .u64 (y1 : Int), .slice A m c, .int .i64 (((bs.length : Nat)) : Int)] ∧ Blk w1 (w.heap.size + 1) 64 [.int .i64 0, .int .i64 0, .int .i64 0, .int .u64 0, .int .u64 0, .slice none 0 0, .int .i64 0] ∧ RowIn .u8 w1 (0) (w.heap.size) A m (pack bs) ∧ RowIn .u8 w1 (0) (w.heap.size) (some ⟨0, 0, none⟩) 64 dbTab ∧ RowIn .u8 w1 (0) (w.heap.size) D nb xs ∧ Below w.heap.size w w1 := by
    refine ⟨?_, ?_, ?_, ?_, ?_, ?_⟩
    all_goals repeat' (first | (with_reducible assumption) | (with_reducible exact Below.refl _ _) | (with_reducible refine Blk.drewN ?_ _) | (with_reducible refine RowIn.drewN ?_ _) | (with_reducible refine below_drewN ?_ _) | (with_reducible refine Blk.drew ?_) | (with_reducible refine RowIn.drew ?_) | (with_reducible refine Below.drew ?_) | (with_reducible refine Blk.new' ?_ ?_ <;> first | (with_reducible rfl) | (simp; done)) | (with_reducible refine Blk.alloc ?_ _) | (with_reducible refine RowIn.alloc ?_ _) | (with_reducible refine Below.alloc ?_ ?_ _) | (with_reducible apply Blk.set') | (with_reducible apply Blk.far') | (with_reducible refine RowIn.far' ?_ ?_ _) | (with_reducible refine Below.far' ?_ ?_ _) | (with_reducible refine Blk.after ?_ b1) | (with_reducible refine RowIn.belowS ?_ b1) | (with_reducible refine Below.after ?_ b1 ?_) | rfl | omega | go_size)
  clear b1
  have ks_1 := zs_1.cell; have fs_1 := zs_1.frozen; have ls_1 := zs_1.lt
  have kr_1 := zr_1.cell; have fr_1 := zr_1.frozen; have lr_1 := zr_1.lt
  go_wp2_with fail
  go_loopg [30] T (fun k v wr => ∃ (i n' p0 p1 q0 q1 m' c' j d lo hi : Nat) (A' B : Option Addr) (r : List Bool) (vs : List Nat) (zs : List Int), i + k = T ∧ v = .int .i64 (i : Nat) ∧ Hid (feed n ⟨x0, x1, y0, y1⟩ (bs ++ unpack (xs.take (64 * i))) = .ok vs n' ⟨p0, p1, q0, q1⟩ r) ∧ Hid (FOk n' ⟨p0, p1, q0, q1⟩ r) ∧ j + n' ≤ n ∧ (m' ≤ c' ∧ c' ≤ 9223372036854775807) ∧ Hid (zs = ints vs) ∧ Own wr w.heap.size 27 .u32 B j d zs ∧ Blk wr (w.heap.size) 64 [.int .i64 (n' : Int), .int .i64 (p0 : Int), .int .i64 (p1 : Int), .int .u64 (q0 : Int), .int .u64 (q1 : Int), .slice A' m' c', .int .i64 (((r.length : Nat)) : Int)] ∧ Blk wr (w.heap.size + 1) 64 [.int .i64 0, .int .i64 0, .int .i64 0, .int .u64 0, .int .u64 0, .slice none 0 0, .int .i64 0] ∧ Blk wr (w1.heap.size) 49 [.slice B j d] ∧ RowIn .u8 wr lo hi A' m' (pack r) ∧ (w.heap.size + 1 < lo ∨ hi ≤ w.heap.size) ∧ hi ≤ wr.heap.size ∧ Hid (0 < i → w.heap.size ≤ lo) ∧ Below w.heap.size w wr ∧ w1.heap.size < wr.heap.size)
  case atStart =>
    refine ⟨0, n, x0, x1, y0, y1, m, c, 0, 0, 0, w.heap.size, A, none, bs, [], [], by omega, rfl, Lib.hid ?_, HF, by omega, hc, Lib.hid rfl, Own.nil _ _ _ _, ?_, ?_, ?_, ?_, Or.inr (Nat.le_refl _), by go_size, Lib.hid (fun h => absurd h (by omega)), ?_, by go_size⟩
    · rw [Nat.mul_zero, List.take_zero, show unpack ([] : List Int) = [] from rfl, List.append_nil]; exact feed_stays HF.out
    all_goals repeat' (first | (with_reducible assumption) | (with_reducible exact Below.refl _ _) | (with_reducible refine Blk.drewN ?_ _) | (with_reducible refine RowIn.drewN ?_ _) | (with_reducible refine below_drewN ?_ _) | (with_reducible refine Blk.drew ?_) | (with_reducible refine RowIn.drew ?_) | (with_reducible refine Below.drew ?_) | (with_reducible refine Blk.new' ?_ ?_ <;> first | (with_reducible rfl) | (simp; done)) | (with_reducible refine Blk.alloc ?_ _) | (with_reducible refine RowIn.alloc ?_ _) | (with_reducible refine Below.alloc ?_ ?_ _) | (with_reducible apply Blk.set') | (with_reducible apply Blk.far') | (with_reducible refine RowIn.far' ?_ ?_ _) | (with_reducible refine Below.far' ?_ ?_ _) | rfl | omega | go_size)
  case round =>
    obtain ⟨i, n', p0, p1, q0, q1, m', c', j, d, lo, hi, A', B, r, vs, zs, hi2, rfl, HG, HFO, hjn, hcA, HZ, own5, zs_5, zr_5, zl_5, ra_5, hlo, hhi, HLO, bb_5, sw1⟩ := hrel
    clear zs_1 ks_1 fs_1 ls_1 zr_1 kr_1 fr_1 lr_1 ra_1 rt_1 rd_1 bb_1
    have HBW : Hid (∀ q, blockOf B = some q → q < wr.heap.size) := Lib.hid (fun q h => (own5.block q h).2)
    have rt_5 := hti.below bb_5 (Nat.le_refl _)
    have rd_5 := hdi.below bb_5 (Nat.le_refl _)
    have s5 := bb_5.size
    have ks_5 := zs_5.cell; have fs_5 := zs_5.frozen; have ls_5 := zs_5.lt
    have kr_5 := zr_5.cell; have fr_5 := zr_5.frozen; have lr_5 := zr_5.lt
    have kl_5 := zl_5.cell; have fl_5 := zl_5.frozen; have ll_5 := zl_5.lt
    by_cases hlt : i < T
    · have hrl := HFO.out.short
      have hiT : (i : Int) < (T : Int) := by omega
      have hin : 64 * i ≤ nb := by omega
      obtain ⟨k, HK⟩ : ∃ k, Hid (k = min 64 (nb - 64 * i)) := ⟨_, Lib.hid rfl⟩
      obtain ⟨pc, HPC⟩ : ∃ pc, Hid (pc = (xs.drop (64 * i)).take 64) := ⟨_, Lib.hid rfl⟩
      have hpl : pc.length ≤ k ∧ k ≤ pc.length := by rw [HPC.out, HK.out, List.length_take, List.length_drop, HXL.out]; omega
      obtain ⟨hpl1, hpl2⟩ := hpl
      have hk64 : k ≤ 64 := by rw [HK.out]; omega
      have hp64 : pc.length ≤ 64 := by omega
      have hpi64 : (pc.length : Int) ≤ 64 := by omega
      have HPW : Hid (Within 0 255 pc) := Lib.hid (by rw [HPC.out]; exact within_piece hx _ _)
      obtain ⟨cs, HCS⟩ : ∃ cs, Hid (cs = pc.map (Value.int .u8)) := ⟨_, Lib.hid rfl⟩
      have hcl : cs.length = pc.length := by rw [HCS.out, List.length_map]
      have hcu : Blk (wr.alloc (.cells (zeroRow .u8 64) 5)) wr.heap.size 5 ((zeros 64).map (Value.int .u8)) := blk_made wr .u8 64 _
      have hcn : cs.length = Nat.min (nb - 64 * i) 64 := by have h := HK.out; show _ = min _ _; omega
      have hc1 : ∀ v ∈ cs, v.oneCell' = true := by rw [HCS.out]; exact oneCell_u8 pc
      have hfit : 0 + cs.length ≤ ((zeros 64).map (Value.int .u8)).length := by rw [List.length_map, zeros_len]; omega
      have hps : ∀ sp : Option Addr, (sp = D.map (fun x => x.add (64 * i)) ∨ (sp = D ∧ nb ≤ 64 * i)) → 0 < cs.length → ∃ ad, sp = some ad ∧ ∀ q v, cs[q]? = some v → (wr.alloc (.cells (zeroRow .u8 64) 5)).cell? (ad.add q) = some v := by
        intro sp hsp hpos
        have hk := HK.out
        obtain ⟨b, off, hD, hblt, hcell⟩ := hd.at (by omega)
        rcases hsp with h | ⟨h, h2⟩
        · refine ⟨⟨b, off + 64 * i, none⟩, ?_, fun q v hq => ?_⟩
          · rw [h, hD, Option.map_some]
            unfold Addr.add
            by_cases h0 : 64 * i = 0
            · simp [h0]
            · simp [h0]
          · rw [HCS.out] at hq
            obtain ⟨hq1, rfl⟩ := map_u8 pc q hq
            have ha2 : (⟨b, off + 64 * i, none⟩ : Addr).add q = ⟨b, off + (64 * i + q), none⟩ := by
              unfold Addr.add
              by_cases h0 : q = 0
              · simp [h0]
              · simp [h0]; omega
            rw [ha2, World.cell?_alloc_lt wr _ ⟨b, off + (64 * i + q), none⟩ (show b < wr.heap.size by omega), bb_5.cell (p := ⟨b, off + (64 * i + q), none⟩) hblt, hcell (64 * i + q) (by omega), HPC.out, nth_take (by omega), nth_drop]
        · exfalso; omega
      obtain ⟨w6, hblk, hbel, hrun⟩ := copy_run ((zeros 64).map (Value.int .u8)) cs 64 wr.heap.size hcu hc1 (by omega) (Nat.le_refl _)
      rw [hcl] at hrun
      have hbw : Below wr.heap.size wr (wr.alloc (.cells (zeroRow .u8 64) 5)) := (Below.refl _ _).alloc (Nat.le_refl _) _
      have b6 : Below wr.heap.size wr w6 := hbw.trans hbel
      have zp0 : Blk w6 wr.heap.size 5 (pc.map (Value.int .u8) ++ ((zeros 64).map (Value.int .u8)).drop cs.length) := by rw [HCS.out] at hblk ⊢; exact hblk
      have rp0 := row_first zp0
      have hcn2 : pc.length = Nat.min (nb - 64 * i) 64 := by rw [← hcl]; exact hcn
      clear hbw hbel zp0 hblk hcu hc1 hfit hcn
      by_cases hcb : cb = 64 * i
      · have hr := hrun D (nb - 64 * i) 0 hcn2 (fun h => hps D (Or.inr ⟨rfl, by omega⟩) (by omega))
        clear hrun hps hcl hcn2
        have s6 := b6.size
        try simp only [World.size_alloc, World.size_setCell, World.size_drew, size_drewN] at s6
        obtain ⟨zs_6, zr_6, zl_6, ra_6, rt_6, rd_6, bb_6⟩ : Blk w6 (w.heap.size) 64 [.int .i64 (n' : Int), .int .i64 (p0 : Int), .int .i64 (p1 : Int), .int .u64 (q0 : Int), .int .u64 (q1 : Int), .slice A' m' c', .int .i64 (((r.length : Nat)) : Int)] ∧ Blk w6 (w.heap.size + 1) 64 [.int .i64 0, .int .i64 0, .int .i64 0, .int .u64 0, .int .u64 0, .slice none 0 0, .int .i64 0] ∧ Blk w6 (w1.heap.size) 49 [.slice B j d] ∧ RowIn .u8 w6 (lo) (hi) A' m' (pack r) ∧ RowIn .u8 w6 (0) (w.heap.size) (some ⟨0, 0, none⟩) 64 dbTab ∧ RowIn .u8 w6 (0) (w.heap.size) D nb xs ∧ Below w.heap.size w w6 := by
          refine ⟨?_, ?_, ?_, ?_, ?_, ?_, ?_⟩
          all_goals repeat' (first | (with_reducible assumption) | (with_reducible exact Below.refl _ _) | (with_reducible refine Blk.drewN ?_ _) | (with_reducible refine RowIn.drewN ?_ _) | (with_reducible refine below_drewN ?_ _) | (with_reducible refine Blk.drew ?_) | (with_reducible refine RowIn.drew ?_) | (with_reducible refine Below.drew ?_) | (with_reducible refine Blk.new' ?_ ?_ <;> first | (with_reducible rfl) | (simp; done)) | (with_reducible refine Blk.alloc ?_ _) | (with_reducible refine RowIn.alloc ?_ _) | (with_reducible refine Below.alloc ?_ ?_ _) | (with_reducible apply Blk.set') | (with_reducible apply Blk.far') | (with_reducible refine RowIn.far' ?_ ?_ _) | (with_reducible refine Below.far' ?_ ?_ _) | (with_reducible refine Blk.after ?_ b6) | (with_reducible refine RowIn.belowS ?_ b6) | (with_reducible refine Below.after ?_ b6 ?_) | rfl | omega | go_size)
        have ks_6 := zs_6.cell; have fs_6 := zs_6.frozen; have ls_6 := zs_6.lt
        have kr_6 := zr_6.cell; have fr_6 := zr_6.frozen; have lr_6 := zr_6.lt
        have kl_6 := zl_6.cell; have fl_6 := zl_6.frozen; have ll_6 := zl_6.lt
        have rp_6 := rp0
        clear rp0
        have own6 := own5.below b6 (Nat.le_refl _)
        go_wp2_with fail
        refine (bof_ok (some ⟨wr.heap.size, 0, none⟩) pc.length 64 pc _ (by exact RowIn.row (lo := wr.heap.size) (hi := wr.heap.size + 1) (by repeat' (first | (with_reducible assumption) | (with_reducible exact Below.refl _ _) | (with_reducible refine Blk.drewN ?_ _) | (with_reducible refine RowIn.drewN ?_ _) | (with_reducible refine below_drewN ?_ _) | (with_reducible refine Blk.drew ?_) | (with_reducible refine RowIn.drew ?_) | (with_reducible refine Below.drew ?_) | (with_reducible refine Blk.new' ?_ ?_ <;> first | (with_reducible rfl) | (simp; done)) | (with_reducible refine Blk.alloc ?_ _) | (with_reducible refine RowIn.alloc ?_ _) | (with_reducible refine Below.alloc ?_ ?_ _) | (with_reducible apply Blk.set') | (with_reducible apply Blk.far') | (with_reducible refine RowIn.far' ?_ ?_ _) | (with_reducible refine Below.far' ?_ ?_ _) | rfl | omega | go_size))) HPW.out (by omega) (by omega)).mono ?_
        rintro e w7 ⟨Am, mm, cm, xm, rfl, hcm, rm, HXm, b7⟩
        have Lm : xm.length ≤ 8 * pc.length ∧ 8 * pc.length ≤ xm.length := by rw [HXm.out]; rw [unpack_len]; omega
        obtain ⟨Lm1, Lm2⟩ := Lm
        replace rm := rm.mono (lo' := w6.heap.size + 0) (by go_size) (Nat.le_refl _)
        have s7 := b7.size
        try simp only [World.size_alloc, World.size_setCell, World.size_drew, size_drewN] at s7
        obtain ⟨zs_7, zr_7, zl_7, ra_7, rt_7, rd_7, rp_7, rm_7, bb_7⟩ : Blk w7 (w.heap.size) 64 [.int .i64 (n' : Int), .int .i64 (p0 : Int), .int .i64 (p1 : Int), .int .u64 (q0 : Int), .int .u64 (q1 : Int), .slice A' m' c', .int .i64 (((r.length : Nat)) : Int)] ∧ Blk w7 (w.heap.size + 1) 64 [.int .i64 0, .int .i64 0, .int .i64 0, .int .u64 0, .int .u64 0, .slice none 0 0, .int .i64 0] ∧ Blk w7 (w1.heap.size) 49 [.slice B j d] ∧ RowIn .u8 w7 (lo) (hi) A' m' (pack r) ∧ RowIn .u8 w7 (0) (w.heap.size) (some ⟨0, 0, none⟩) 64 dbTab ∧ RowIn .u8 w7 (0) (w.heap.size) D nb xs ∧ RowIn .u8 w7 (wr.heap.size) (wr.heap.size + 1) (some ⟨wr.heap.size, 0, none⟩) pc.length pc ∧ RowIn .u8 w7 (w6.heap.size + 0) (w7.heap.size) Am mm (pack xm) ∧ Below w.heap.size w w7 := by
          refine ⟨?_, ?_, ?_, ?_, ?_, ?_, ?_, ?_, ?_⟩
          all_goals repeat' (first | (with_reducible assumption) | (with_reducible exact Below.refl _ _) | (with_reducible refine Blk.drewN ?_ _) | (with_reducible refine RowIn.drewN ?_ _) | (with_reducible refine below_drewN ?_ _) | (with_reducible refine Blk.drew ?_) | (with_reducible refine RowIn.drew ?_) | (with_reducible refine Below.drew ?_) | (with_reducible refine Blk.new' ?_ ?_ <;> first | (with_reducible rfl) | (simp; done)) | (with_reducible refine Blk.alloc ?_ _) | (with_reducible refine RowIn.alloc ?_ _) | (with_reducible refine Below.alloc ?_ ?_ _) | (with_reducible apply Blk.set') | (with_reducible apply Blk.far') | (with_reducible refine RowIn.far' ?_ ?_ _) | (with_reducible refine Below.far' ?_ ?_ _) | (with_reducible refine Blk.after ?_ b7) | (with_reducible refine RowIn.belowS ?_ b7) | (with_reducible refine Below.after ?_ b7 ?_) | rfl | omega | go_size)
        have ks_7 := zs_7.cell; have fs_7 := zs_7.frozen; have ls_7 := zs_7.lt
        have kr_7 := zr_7.cell; have fr_7 := zr_7.frozen; have lr_7 := zr_7.lt
        have kl_7 := zl_7.cell; have fl_7 := zl_7.frozen; have ll_7 := zl_7.lt
        clear rm
        have own7 := own6.below b7 (Nat.le_refl _)
        clear b7
        clear hr hTi hmf hmk hpi64
        go_wp2_with fail
        refine (bjoin_ok A' Am m' c' mm cm r xm _ (by exact RowIn.row (lo := lo) (hi := hi) (by repeat' (first | (with_reducible assumption) | (with_reducible exact Below.refl _ _) | (with_reducible refine Blk.drewN ?_ _) | (with_reducible refine RowIn.drewN ?_ _) | (with_reducible refine below_drewN ?_ _) | (with_reducible refine Blk.drew ?_) | (with_reducible refine RowIn.drew ?_) | (with_reducible refine Below.drew ?_) | (with_reducible refine Blk.new' ?_ ?_ <;> first | (with_reducible rfl) | (simp; done)) | (with_reducible refine Blk.alloc ?_ _) | (with_reducible refine RowIn.alloc ?_ _) | (with_reducible refine Below.alloc ?_ ?_ _) | (with_reducible apply Blk.set') | (with_reducible apply Blk.far') | (with_reducible refine RowIn.far' ?_ ?_ _) | (with_reducible refine Below.far' ?_ ?_ _) | rfl | omega | go_size))) (by exact RowIn.row (lo := w6.heap.size + 0) (hi := w7.heap.size) (by repeat' (first | (with_reducible assumption) | (with_reducible exact Below.refl _ _) | (with_reducible refine Blk.drewN ?_ _) | (with_reducible refine RowIn.drewN ?_ _) | (with_reducible refine below_drewN ?_ _) | (with_reducible refine Blk.drew ?_) | (with_reducible refine RowIn.drew ?_) | (with_reducible refine Below.drew ?_) | (with_reducible refine Blk.new' ?_ ?_ <;> first | (with_reducible rfl) | (simp; done)) | (with_reducible refine Blk.alloc ?_ _) | (with_reducible refine RowIn.alloc ?_ _) | (with_reducible refine Below.alloc ?_ ?_ _) | (with_reducible apply Blk.set') | (with_reducible apply Blk.far') | (with_reducible refine RowIn.far' ?_ ?_ _) | (with_reducible refine Below.far' ?_ ?_ _) | rfl | omega | go_size))) hcA hcm (by omega)).mono ?_
        rintro e w8 ⟨Aq, mq, cq, xq, rfl, hcq, rq, HXq, b8⟩
        have Lq : xq.length ≤ r.length + 8 * pc.length ∧ r.length + 8 * pc.length ≤ xq.length := by rw [HXq.out]; simp only [List.length_append, lowBits_len, List.length_nil, List.length_take, List.length_drop, unpack_len]; omega
        obtain ⟨Lq1, Lq2⟩ := Lq
        replace rq := rq.mono (lo' := w7.heap.size + 1) (by go_size) (Nat.le_refl _)
        have s8 := b8.size
        try simp only [World.size_alloc, World.size_setCell, World.size_drew, size_drewN] at s8
        obtain ⟨zs_8, zr_8, zl_8, zm_8, ra_8, rt_8, rd_8, rm_8, rq_8, bb_8⟩ : Blk w8 (w.heap.size) 64 [.int .i64 (n' : Int), .int .i64 (p0 : Int), .int .i64 (p1 : Int), .int .u64 (q0 : Int), .int .u64 (q1 : Int), .slice A' m' c', .int .i64 (((r.length : Nat)) : Int)] ∧ Blk w8 (w.heap.size + 1) 64 [.int .i64 0, .int .i64 0, .int .i64 0, .int .u64 0, .int .u64 0, .slice none 0 0, .int .i64 0] ∧ Blk w8 (w1.heap.size) 49 [.slice B j d] ∧ Blk w8 (w7.heap.size) 26 [.slice Am mm cm, .int .i64 ((xm.length : Nat) : Int)] ∧ RowIn .u8 w8 (lo) (hi) A' m' (pack r) ∧ RowIn .u8 w8 (0) (w.heap.size) (some ⟨0, 0, none⟩) 64 dbTab ∧ RowIn .u8 w8 (0) (w.heap.size) D nb xs ∧ RowIn .u8 w8 (w6.heap.size + 0) (w7.heap.size) Am mm (pack xm) ∧ RowIn .u8 w8 (w7.heap.size + 1) (w8.heap.size) Aq mq (pack xq) ∧ Below w.heap.size w w8 := by
          refine ⟨?_, ?_, ?_, ?_, ?_, ?_, ?_, ?_, ?_, ?_⟩
          all_goals repeat' (first | (with_reducible assumption) | (with_reducible exact Below.refl _ _) | (with_reducible refine Blk.drewN ?_ _) | (with_reducible refine RowIn.drewN ?_ _) | (with_reducible refine below_drewN ?_ _) | (with_reducible refine Blk.drew ?_) | (with_reducible refine RowIn.drew ?_) | (with_reducible refine Below.drew ?_) | (with_reducible refine Blk.new' ?_ ?_ <;> first | (with_reducible rfl) | (simp; done)) | (with_reducible refine Blk.alloc ?_ _) | (with_reducible refine RowIn.alloc ?_ _) | (with_reducible refine Below.alloc ?_ ?_ _) | (with_reducible apply Blk.set') | (with_reducible apply Blk.far') | (with_reducible refine RowIn.far' ?_ ?_ _) | (with_reducible refine Below.far' ?_ ?_ _) | (with_reducible refine Blk.after ?_ b8) | (with_reducible refine RowIn.belowS ?_ b8) | (with_reducible refine Below.after ?_ b8 ?_) | rfl | omega | go_size)
        have ks_8 := zs_8.cell; have fs_8 := zs_8.frozen; have ls_8 := zs_8.lt
        have kr_8 := zr_8.cell; have fr_8 := zr_8.frozen; have lr_8 := zr_8.lt
        have kl_8 := zl_8.cell; have fl_8 := zl_8.frozen; have ll_8 := zl_8.lt
        have km_8 := zm_8.cell; have fm_8 := zm_8.frozen; have lm_8 := zm_8.lt
        clear rq
        have own8 := (own7.alloc (.cells #[.slice Am mm cm, .int .i64 ((xm.length : Nat) : Int)] 26)).below b8 (Nat.le_refl _)
        clear b8
        have HXQ : Hid (xq = r ++ unpack pc) := Lib.hid (by rw [HXq.out, HXm.out])
        clear HXq HXm
        go_wp2_with fail
        obtain ⟨w9, hw9⟩ : ∃ w9, w9 = (w8.setCell ⟨w.heap.size, 5, none⟩ (.slice Aq mq cq)).setCell ⟨w.heap.size, 6, none⟩ (.int .i64 ((xq.length : Nat) : Int)) := ⟨_, rfl⟩
        have own9 : Own w9 w.heap.size 27 .u32 B j d zs := by
          have hne := own8.ne_blk zs_8 (by decide)
          rw [hw9]; exact (own8.far' hne _).far' hne _
        have zs_9 : Blk w9 (w.heap.size) 64 [.int .i64 (n' : Int), .int .i64 (p0 : Int), .int .i64 (p1 : Int), .int .u64 (q0 : Int), .int .u64 (q1 : Int), .slice Aq mq cq, .int .i64 (((xq.length : Nat)) : Int)] := by rw [hw9]; exact Blk.set' (l0 := [.int .i64 (n' : Int), .int .i64 (p0 : Int), .int .i64 (p1 : Int), .int .u64 (q0 : Int), .int .u64 (q1 : Int), .slice Aq mq cq, .int .i64 ((r.length : Nat) : Int)]) (Blk.set' zs_8 rfl) rfl
        have zr_9 : Blk w9 (w.heap.size + 1) 64 [.int .i64 0, .int .i64 0, .int .i64 0, .int .u64 0, .int .u64 0, .slice none 0 0, .int .i64 0] := by rw [hw9]; exact Blk.far' (Blk.far' zr_8 (by omega) _) (by omega) _
        have zl_9 : Blk w9 (w1.heap.size) 49 [.slice B j d] := by rw [hw9]; exact Blk.far' (Blk.far' zl_8 (by omega) _) (by omega) _
        have rq_9 : RowIn .u8 w9 (w7.heap.size + 1) w8.heap.size Aq mq (pack xq) := by rw [hw9]; exact RowIn.far' (RowIn.far' rq_8 (Or.inl (by omega)) _) (Or.inl (by omega)) _
        have bb_9 : Below w.heap.size w w9 := by rw [hw9]; exact Below.far' (Below.far' bb_8 (by omega) _) (by omega) _
        have s9 : w9.heap.size = w8.heap.size := by rw [hw9]; simp [World.setCell]
        have rt_9 : RowIn .u8 w9 0 w.heap.size (some ⟨0, 0, none⟩) 64 dbTab := hti.below bb_9 (Nat.le_refl _)
        rw [← hw9]
        clear hw9 own5 own6 own7 own8 zs_8 zr_8 zl_8 zm_8 ra_8 rt_8 rd_8 rm_8 rq_8 bb_8 ks_8 fs_8 ls_8 kr_8 fr_8 lr_8 kl_8 fl_8 ll_8 km_8 fm_8 lm_8
        have hbk : ∀ q, blockOf B = some q → q < w7.heap.size + 1 ∨ w8.heap.size ≤ q := fun q h => by
          have h1 := HBW.out q h
          omega
        have hrd := feed1_any w.heap.size (w.heap.size) (w1.heap.size) n' p0 p1 q0 q1 mq cq j d (w7.heap.size + 1) w8.heap.size Aq B xq zs w9 HFO.out.1 (by omega) (by omega) (by omega) hcq zs_9 zl_9 own9 rq_9 (Or.inl (by omega)) (Or.inl (by omega)) hbk (by omega) (by omega) (by omega) (by omega) (by omega) rt_9.row (by omega) htl
        have HRD := Lib.hid hrd
        clear hrd hbk
        refine HRD.out.mono ?_
        rintro e w10 ⟨fr10, hres⟩
        clear HRD
        rw [HXQ.out] at hres
        have own9b := fun q (h : blockOf B = some q) => (own9.block q h)
        have hneR : blockOf B ≠ some (w.heap.size + 1) := own9.ne_blk zr_9 (by decide)
        have zr_10 := zr_9.frm fr10 (fun h => h.elim (fun h => by omega) (fun h => h.elim (fun h => by omega) (fun h => hneR h)))
        have bb_10 : Below w.heap.size w w10 := bb_9.trans (fr10.below bb_9.size (fun q hq h => h.elim (fun h => by omega) (fun h => h.elim (fun h => by omega) (fun h => absurd (own9b q h).1 (by omega)))))
        have s10 := bb_10.size
        have s910 := fr10.size
        have kr_10 := zr_10.cell; have fr_10 := zr_10.frozen; have lr_10 := zr_10.lt
        have hpc := feed_piece (k := 64) HFO0.out.1 HG.out
        rw [← HPC.out] at hpc
        cases hfd : feed n' ⟨p0, p1, q0, q1⟩ (r ++ unpack pc) with
        | err er =>
          rw [hfd] at hres hpc
          have hee := feed_err HFO.out.1 hfd
          have hfin : feed n ⟨x0, x1, y0, y1⟩ (bs ++ unpack xs) = .err er := feed_early HFO0.out.1 hpc
          have HFIN := Lib.hid hfin
          have hres2 : e = .returned (.int .i64 (er : Int)) := hres
          clear hpc hfin hfd hres
          subst hres2
          have he1 : ((er : Int) == 0) = false := by rcases hee with rfl | rfl <;> rfl
          have he2 : ((er : Int) != 0) = true := by rcases hee with rfl | rfl <;> rfl
          go_wp2
          refine bodyPost_ret (v := .tuple #[.agg #[.int .i64 0, .int .i64 0, .int .i64 0, .int .u64 0, .int .u64 0, .slice none 0 0, .int .i64 0], .slice none 0 0, .int .i64 (er : Int)]) (by simp [results, Tryd.results28, go_sem, kr_10, lr_10, fr_10]) rfl ?_
          rw [HFIN.out]
          refine gfeed_err ⟨rfl, ?_⟩
          repeat' (first | (with_reducible assumption) | (with_reducible exact Below.refl _ _) | (with_reducible refine Blk.drewN ?_ _) | (with_reducible refine RowIn.drewN ?_ _) | (with_reducible refine below_drewN ?_ _) | (with_reducible refine Blk.drew ?_) | (with_reducible refine RowIn.drew ?_) | (with_reducible refine Below.drew ?_) | (with_reducible refine Blk.new' ?_ ?_ <;> first | (with_reducible rfl) | (simp; done)) | (with_reducible refine Blk.alloc ?_ _) | (with_reducible refine RowIn.alloc ?_ _) | (with_reducible refine Below.alloc ?_ ?_ _) | (with_reducible apply Blk.set') | (with_reducible apply Blk.far') | (with_reducible refine RowIn.far' ?_ ?_ _) | (with_reducible refine Below.far' ?_ ?_ _) | rfl | omega | go_size)
        | ok vs2 n2 d2 r2 =>
          rw [hfd] at hres hpc
          obtain ⟨f1, f2, f3, f4, f5⟩ := feed_ok HFO.out.1 hfd
          obtain ⟨t0, t1', t2, t3, m2, c2, k2, dd2, A2, B2, bs2, zs2, rfl, HD2, zs_10, hc2, HB2, ra_10, zl_10, own10, HZ2, HBO⟩ := hres
          obtain rfl := HB2.out
          obtain rfl := HD2.out
          have HG2 : Hid (feed n ⟨x0, x1, y0, y1⟩ (bs ++ unpack (xs.take (64 * (i + 1)))) = .ok (vs ++ vs2) n2 ⟨t0, t1', t2, t3⟩ bs2) := Lib.hid (by rw [Nat.mul_succ]; exact hpc)
          have HFO2 := Lib.hid f1
          have HZ3 : Hid (zs2 = ints (vs ++ vs2)) := Lib.hid (by rw [HZ2.out, HZ.out, ints_app])
          have hk2 : k2 = j + vs2.length := by have h1 := own10.len; have h2 := own9.len; rw [HZ2.out, List.length_append, ints_len] at h1; omega
          have hk3 : k2 + n2 ≤ n := by omega
          clear hpc hfd f1 f3 f4 f5 HB2 HD2 HZ2 HBO hk2 own9b f2
          have ks_10 := zs_10.cell; have fs_10 := zs_10.frozen; have ls_10 := zs_10.lt
          go_wp2
          rw [← hcb]
          go_roundg (T - (i + 1))
          case measure => omega
          case rel => exact ⟨i + 1, n2, t0, t1', t2, t3, m2, c2, k2, dd2, w9.heap.size, w10.heap.size, A2, B2, bs2, vs ++ vs2, zs2, by omega, by go_num, HG2, HFO2, hk3, hc2, HZ3, own10, zs_10, zr_10, zl_10, ra_10, Or.inl (by omega), Nat.le_refl _, Lib.hid (fun _ => by omega), bb_10, by omega⟩
      · have hr := hrun (D.map (fun x => x.add (64 * i))) (nb - 64 * i) (cb - 64 * i) hcn2 (fun h => hps _ (Or.inl rfl) (by omega))
        clear hrun hps hcl hcn2
        have s6 := b6.size
        try simp only [World.size_alloc, World.size_setCell, World.size_drew, size_drewN] at s6
        obtain ⟨zs_6, zr_6, zl_6, ra_6, rt_6, rd_6, bb_6⟩ : Blk w6 (w.heap.size) 64 [.int .i64 (n' : Int), .int .i64 (p0 : Int), .int .i64 (p1 : Int), .int .u64 (q0 : Int), .int .u64 (q1 : Int), .slice A' m' c', .int .i64 (((r.length : Nat)) : Int)] ∧ Blk w6 (w.heap.size + 1) 64 [.int .i64 0, .int .i64 0, .int .i64 0, .int .u64 0, .int .u64 0, .slice none 0 0, .int .i64 0] ∧ Blk w6 (w1.heap.size) 49 [.slice B j d] ∧ RowIn .u8 w6 (lo) (hi) A' m' (pack r) ∧ RowIn .u8 w6 (0) (w.heap.size) (some ⟨0, 0, none⟩) 64 dbTab ∧ RowIn .u8 w6 (0) (w.heap.size) D nb xs ∧ Below w.heap.size w w6 := by
          refine ⟨?_, ?_, ?_, ?_, ?_, ?_, ?_⟩
          all_goals repeat' (first | (with_reducible assumption) | (with_reducible exact Below.refl _ _) | (with_reducible refine Blk.drewN ?_ _) | (with_reducible refine RowIn.drewN ?_ _) | (with_reducible refine below_drewN ?_ _) | (with_reducible refine Blk.drew ?_) | (with_reducible refine RowIn.drew ?_) | (with_reducible refine Below.drew ?_) | (with_reducible refine Blk.new' ?_ ?_ <;> first | (with_reducible rfl) | (simp; done)) | (with_reducible refine Blk.alloc ?_ _) | (with_reducible refine RowIn.alloc ?_ _) | (with_reducible refine Below.alloc ?_ ?_ _) | (with_reducible apply Blk.set') | (with_reducible apply Blk.far') | (with_reducible refine RowIn.far' ?_ ?_ _) | (with_reducible refine Below.far' ?_ ?_ _) | (with_reducible refine Blk.after ?_ b6) | (with_reducible refine RowIn.belowS ?_ b6) | (with_reducible refine Below.after ?_ b6 ?_) | rfl | omega | go_size)
        have ks_6 := zs_6.cell; have fs_6 := zs_6.frozen; have ls_6 := zs_6.lt
        have kr_6 := zr_6.cell; have fr_6 := zr_6.frozen; have lr_6 := zr_6.lt
        have kl_6 := zl_6.cell; have fl_6 := zl_6.frozen; have ll_6 := zl_6.lt
        have rp_6 := rp0
        clear rp0
        have own6 := own5.below b6 (Nat.le_refl _)
        go_wp2_with fail
        refine (bof_ok (some ⟨wr.heap.size, 0, none⟩) pc.length 64 pc _ (by exact RowIn.row (lo := wr.heap.size) (hi := wr.heap.size + 1) (by repeat' (first | (with_reducible assumption) | (with_reducible exact Below.refl _ _) | (with_reducible refine Blk.drewN ?_ _) | (with_reducible refine RowIn.drewN ?_ _) | (with_reducible refine below_drewN ?_ _) | (with_reducible refine Blk.drew ?_) | (with_reducible refine RowIn.drew ?_) | (with_reducible refine Below.drew ?_) | (with_reducible refine Blk.new' ?_ ?_ <;> first | (with_reducible rfl) | (simp; done)) | (with_reducible refine Blk.alloc ?_ _) | (with_reducible refine RowIn.alloc ?_ _) | (with_reducible refine Below.alloc ?_ ?_ _) | (with_reducible apply Blk.set') | (with_reducible apply Blk.far') | (with_reducible refine RowIn.far' ?_ ?_ _) | (with_reducible refine Below.far' ?_ ?_ _) | rfl | omega | go_size))) HPW.out (by omega) (by omega)).mono ?_
        rintro e w7 ⟨Am, mm, cm, xm, rfl, hcm, rm, HXm, b7⟩
        have Lm : xm.length ≤ 8 * pc.length ∧ 8 * pc.length ≤ xm.length := by rw [HXm.out]; rw [unpack_len]; omega
        obtain ⟨Lm1, Lm2⟩ := Lm
        replace rm := rm.mono (lo' := w6.heap.size + 0) (by go_size) (Nat.le_refl _)
        have s7 := b7.size
        try simp only [World.size_alloc, World.size_setCell, World.size_drew, size_drewN] at s7
        obtain ⟨zs_7, zr_7, zl_7, ra_7, rt_7, rd_7, rp_7, rm_7, bb_7⟩ : Blk w7 (w.heap.size) 64 [.int .i64 (n' : Int), .int .i64 (p0 : Int), .int .i64 (p1 : Int), .int .u64 (q0 : Int), .int .u64 (q1 : Int), .slice A' m' c', .int .i64 (((r.length : Nat)) : Int)] ∧ Blk w7 (w.heap.size + 1) 64 [.int .i64 0, .int .i64 0, .int .i64 0, .int .u64 0, .int .u64 0, .slice none 0 0, .int .i64 0] ∧ Blk w7 (w1.heap.size) 49 [.slice B j d] ∧ RowIn .u8 w7 (lo) (hi) A' m' (pack r) ∧ RowIn .u8 w7 (0) (w.heap.size) (some ⟨0, 0, none⟩) 64 dbTab ∧ RowIn .u8 w7 (0) (w.heap.size) D nb xs ∧ RowIn .u8 w7 (wr.heap.size) (wr.heap.size + 1) (some ⟨wr.heap.size, 0, none⟩) pc.length pc ∧ RowIn .u8 w7 (w6.heap.size + 0) (w7.heap.size) Am mm (pack xm) ∧ Below w.heap.size w w7 := by
          refine ⟨?_, ?_, ?_, ?_, ?_, ?_, ?_, ?_, ?_⟩
          all_goals repeat' (first | (with_reducible assumption) | (with_reducible exact Below.refl _ _) | (with_reducible refine Blk.drewN ?_ _) | (with_reducible refine RowIn.drewN ?_ _) | (with_reducible refine below_drewN ?_ _) | (with_reducible refine Blk.drew ?_) | (with_reducible refine RowIn.drew ?_) | (with_reducible refine Below.drew ?_) | (with_reducible refine Blk.new' ?_ ?_ <;> first | (with_reducible rfl) | (simp; done)) | (with_reducible refine Blk.alloc ?_ _) | (with_reducible refine RowIn.alloc ?_ _) | (with_reducible refine Below.alloc ?_ ?_ _) | (with_reducible apply Blk.set') | (with_reducible apply Blk.far') | (with_reducible refine RowIn.far' ?_ ?_ _) | (with_reducible refine Below.far' ?_ ?_ _) | (with_reducible refine Blk.after ?_ b7) | (with_reducible refine RowIn.belowS ?_ b7) | (with_reducible refine Below.after ?_ b7 ?_) | rfl | omega | go_size)
        have ks_7 := zs_7.cell; have fs_7 := zs_7.frozen; have ls_7 := zs_7.lt
        have kr_7 := zr_7.cell; have fr_7 := zr_7.frozen; have lr_7 := zr_7.lt
        have kl_7 := zl_7.cell; have fl_7 := zl_7.frozen; have ll_7 := zl_7.lt
        clear rm
        have own7 := own6.below b7 (Nat.le_refl _)
        clear b7
        clear hr hTi hmf hmk hpi64
        go_wp2_with fail
        refine (bjoin_ok A' Am m' c' mm cm r xm _ (by exact RowIn.row (lo := lo) (hi := hi) (by repeat' (first | (with_reducible assumption) | (with_reducible exact Below.refl _ _) | (with_reducible refine Blk.drewN ?_ _) | (with_reducible refine RowIn.drewN ?_ _) | (with_reducible refine below_drewN ?_ _) | (with_reducible refine Blk.drew ?_) | (with_reducible refine RowIn.drew ?_) | (with_reducible refine Below.drew ?_) | (with_reducible refine Blk.new' ?_ ?_ <;> first | (with_reducible rfl) | (simp; done)) | (with_reducible refine Blk.alloc ?_ _) | (with_reducible refine RowIn.alloc ?_ _) | (with_reducible refine Below.alloc ?_ ?_ _) | (with_reducible apply Blk.set') | (with_reducible apply Blk.far') | (with_reducible refine RowIn.far' ?_ ?_ _) | (with_reducible refine Below.far' ?_ ?_ _) | rfl | omega | go_size))) (by exact RowIn.row (lo := w6.heap.size + 0) (hi := w7.heap.size) (by repeat' (first | (with_reducible assumption) | (with_reducible exact Below.refl _ _) | (with_reducible refine Blk.drewN ?_ _) | (with_reducible refine RowIn.drewN ?_ _) | (with_reducible refine below_drewN ?_ _) | (with_reducible refine Blk.drew ?_) | (with_reducible refine RowIn.drew ?_) | (with_reducible refine Below.drew ?_) | (with_reducible refine Blk.new' ?_ ?_ <;> first | (with_reducible rfl) | (simp; done)) | (with_reducible refine Blk.alloc ?_ _) | (with_reducible refine RowIn.alloc ?_ _) | (with_reducible refine Below.alloc ?_ ?_ _) | (with_reducible apply Blk.set') | (with_reducible apply Blk.far') | (with_reducible refine RowIn.far' ?_ ?_ _) | (with_reducible refine Below.far' ?_ ?_ _) | rfl | omega | go_size))) hcA hcm (by omega)).mono ?_
        rintro e w8 ⟨Aq, mq, cq, xq, rfl, hcq, rq, HXq, b8⟩
        have Lq : xq.length ≤ r.length + 8 * pc.length ∧ r.length + 8 * pc.length ≤ xq.length := by rw [HXq.out]; simp only [List.length_append, lowBits_len, List.length_nil, List.length_take, List.length_drop, unpack_len]; omega
        obtain ⟨Lq1, Lq2⟩ := Lq
        replace rq := rq.mono (lo' := w7.heap.size + 1) (by go_size) (Nat.le_refl _)
        have s8 := b8.size
        try simp only [World.size_alloc, World.size_setCell, World.size_drew, size_drewN] at s8
        obtain ⟨zs_8, zr_8, zl_8, zm_8, ra_8, rt_8, rd_8, rm_8, rq_8, bb_8⟩ : Blk w8 (w.heap.size) 64 [.int .i64 (n' : Int), .int .i64 (p0 : Int), .int .i64 (p1 : Int), .int .u64 (q0 : Int), .int .u64 (q1 : Int), .slice A' m' c', .int .i64 (((r.length : Nat)) : Int)] ∧ Blk w8 (w.heap.size + 1) 64 [.int .i64 0, .int .i64 0, .int .i64 0, .int .u64 0, .int .u64 0, .slice none 0 0, .int .i64 0] ∧ Blk w8 (w1.heap.size) 49 [.slice B j d] ∧ Blk w8 (w7.heap.size) 26 [.slice Am mm cm, .int .i64 ((xm.length : Nat) : Int)] ∧ RowIn .u8 w8 (lo) (hi) A' m' (pack r) ∧ RowIn .u8 w8 (0) (w.heap.size) (some ⟨0, 0, none⟩) 64 dbTab ∧ RowIn .u8 w8 (0) (w.heap.size) D nb xs ∧ RowIn .u8 w8 (w6.heap.size + 0) (w7.heap.size) Am mm (pack xm) ∧ RowIn .u8 w8 (w7.heap.size + 1) (w8.heap.size) Aq mq (pack xq) ∧ Below w.heap.size w w8 := by
          refine ⟨?_, ?_, ?_, ?_, ?_, ?_, ?_, ?_, ?_, ?_⟩
          all_goals repeat' (first | (with_reducible assumption) | (with_reducible exact Below.refl _ _) | (with_reducible refine Blk.drewN ?_ _) | (with_reducible refine RowIn.drewN ?_ _) | (with_reducible refine below_drewN ?_ _) | (with_reducible refine Blk.drew ?_) | (with_reducible refine RowIn.drew ?_) | (with_reducible refine Below.drew ?_) | (with_reducible refine Blk.new' ?_ ?_ <;> first | (with_reducible rfl) | (simp; done)) | (with_reducible refine Blk.alloc ?_ _) | (with_reducible refine RowIn.alloc ?_ _) | (with_reducible refine Below.alloc ?_ ?_ _) | (with_reducible apply Blk.set') | (with_reducible apply Blk.far') | (with_reducible refine RowIn.far' ?_ ?_ _) | (with_reducible refine Below.far' ?_ ?_ _) | (with_reducible refine Blk.after ?_ b8) | (with_reducible refine RowIn.belowS ?_ b8) | (with_reducible refine Below.after ?_ b8 ?_) | rfl | omega | go_size)
        have ks_8 := zs_8.cell; have fs_8 := zs_8.frozen; have ls_8 := zs_8.lt
        have kr_8 := zr_8.cell; have fr_8 := zr_8.frozen; have lr_8 := zr_8.lt
        have kl_8 := zl_8.cell; have fl_8 := zl_8.frozen; have ll_8 := zl_8.lt
        have km_8 := zm_8.cell; have fm_8 := zm_8.frozen; have lm_8 := zm_8.lt
        clear rq
        have own8 := (own7.alloc (.cells #[.slice Am mm cm, .int .i64 ((xm.length : Nat) : Int)] 26)).below b8 (Nat.le_refl _)
        clear b8
        have HXQ : Hid (xq = r ++ unpack pc) := Lib.hid (by rw [HXq.out, HXm.out])
        clear HXq HXm
        go_wp2_with fail
        obtain ⟨w9, hw9⟩ : ∃ w9, w9 = (w8.setCell ⟨w.heap.size, 5, none⟩ (.slice Aq mq cq)).setCell ⟨w.heap.size, 6, none⟩ (.int .i64 ((xq.length : Nat) : Int)) := ⟨_, rfl⟩
        have own9 : Own w9 w.heap.size 27 .u32 B j d zs := by
          have hne := own8.ne_blk zs_8 (by decide)
          rw [hw9]; exact (own8.far' hne _).far' hne _
        have zs_9 : Blk w9 (w.heap.size) 64 [.int .i64 (n' : Int), .int .i64 (p0 : Int), .int .i64 (p1 : Int), .int .u64 (q0 : Int), .int .u64 (q1 : Int), .slice Aq mq cq, .int .i64 (((xq.length : Nat)) : Int)] := by rw [hw9]; exact Blk.set' (l0 := [.int .i64 (n' : Int), .int .i64 (p0 : Int), .int .i64 (p1 : Int), .int .u64 (q0 : Int), .int .u64 (q1 : Int), .slice Aq mq cq, .int .i64 ((r.length : Nat) : Int)]) (Blk.set' zs_8 rfl) rfl
        have zr_9 : Blk w9 (w.heap.size + 1) 64 [.int .i64 0, .int .i64 0, .int .i64 0, .int .u64 0, .int .u64 0, .slice none 0 0, .int .i64 0] := by rw [hw9]; exact Blk.far' (Blk.far' zr_8 (by omega) _) (by omega) _
        have zl_9 : Blk w9 (w1.heap.size) 49 [.slice B j d] := by rw [hw9]; exact Blk.far' (Blk.far' zl_8 (by omega) _) (by omega) _
        have rq_9 : RowIn .u8 w9 (w7.heap.size + 1) w8.heap.size Aq mq (pack xq) := by rw [hw9]; exact RowIn.far' (RowIn.far' rq_8 (Or.inl (by omega)) _) (Or.inl (by omega)) _
        have bb_9 : Below w.heap.size w w9 := by rw [hw9]; exact Below.far' (Below.far' bb_8 (by omega) _) (by omega) _
        have s9 : w9.heap.size = w8.heap.size := by rw [hw9]; simp [World.setCell]
        have rt_9 : RowIn .u8 w9 0 w.heap.size (some ⟨0, 0, none⟩) 64 dbTab := hti.below bb_9 (Nat.le_refl _)
        rw [← hw9]
        clear hw9 own5 own6 own7 own8 zs_8 zr_8 zl_8 zm_8 ra_8 rt_8 rd_8 rm_8 rq_8 bb_8 ks_8 fs_8 ls_8 kr_8 fr_8 lr_8 kl_8 fl_8 ll_8 km_8 fm_8 lm_8
        have hbk : ∀ q, blockOf B = some q → q < w7.heap.size + 1 ∨ w8.heap.size ≤ q := fun q h => by
          have h1 := HBW.out q h
          omega
        have hrd := feed1_any w.heap.size (w.heap.size) (w1.heap.size) n' p0 p1 q0 q1 mq cq j d (w7.heap.size + 1) w8.heap.size Aq B xq zs w9 HFO.out.1 (by omega) (by omega) (by omega) hcq zs_9 zl_9 own9 rq_9 (Or.inl (by omega)) (Or.inl (by omega)) hbk (by omega) (by omega) (by omega) (by omega) (by omega) rt_9.row (by omega) htl
        have HRD := Lib.hid hrd
        clear hrd hbk
        refine HRD.out.mono ?_
        rintro e w10 ⟨fr10, hres⟩
        clear HRD
        rw [HXQ.out] at hres
        have own9b := fun q (h : blockOf B = some q) => (own9.block q h)
        have hneR : blockOf B ≠ some (w.heap.size + 1) := own9.ne_blk zr_9 (by decide)
        have zr_10 := zr_9.frm fr10 (fun h => h.elim (fun h => by omega) (fun h => h.elim (fun h => by omega) (fun h => hneR h)))
        have bb_10 : Below w.heap.size w w10 := bb_9.trans (fr10.below bb_9.size (fun q hq h => h.elim (fun h => by omega) (fun h => h.elim (fun h => by omega) (fun h => absurd (own9b q h).1 (by omega)))))
        have s10 := bb_10.size
        have s910 := fr10.size
        have kr_10 := zr_10.cell; have fr_10 := zr_10.frozen; have lr_10 := zr_10.lt
        have hpc := feed_piece (k := 64) HFO0.out.1 HG.out
        rw [← HPC.out] at hpc
        cases hfd : feed n' ⟨p0, p1, q0, q1⟩ (r ++ unpack pc) with
        | err er =>
          rw [hfd] at hres hpc
          have hee := feed_err HFO.out.1 hfd
          have hfin : feed n ⟨x0, x1, y0, y1⟩ (bs ++ unpack xs) = .err er := feed_early HFO0.out.1 hpc
          have HFIN := Lib.hid hfin
          have hres2 : e = .returned (.int .i64 (er : Int)) := hres
          clear hpc hfin hfd hres
          subst hres2
          have he1 : ((er : Int) == 0) = false := by rcases hee with rfl | rfl <;> rfl
          have he2 : ((er : Int) != 0) = true := by rcases hee with rfl | rfl <;> rfl
          go_wp2
          refine bodyPost_ret (v := .tuple #[.agg #[.int .i64 0, .int .i64 0, .int .i64 0, .int .u64 0, .int .u64 0, .slice none 0 0, .int .i64 0], .slice none 0 0, .int .i64 (er : Int)]) (by simp [results, Tryd.results28, go_sem, kr_10, lr_10, fr_10]) rfl ?_
          rw [HFIN.out]
          refine gfeed_err ⟨rfl, ?_⟩
          repeat' (first | (with_reducible assumption) | (with_reducible exact Below.refl _ _) | (with_reducible refine Blk.drewN ?_ _) | (with_reducible refine RowIn.drewN ?_ _) | (with_reducible refine below_drewN ?_ _) | (with_reducible refine Blk.drew ?_) | (with_reducible refine RowIn.drew ?_) | (with_reducible refine Below.drew ?_) | (with_reducible refine Blk.new' ?_ ?_ <;> first | (with_reducible rfl) | (simp; done)) | (with_reducible refine Blk.alloc ?_ _) | (with_reducible refine RowIn.alloc ?_ _) | (with_reducible refine Below.alloc ?_ ?_ _) | (with_reducible apply Blk.set') | (with_reducible apply Blk.far') | (with_reducible refine RowIn.far' ?_ ?_ _) | (with_reducible refine Below.far' ?_ ?_ _) | rfl | omega | go_size)
        | ok vs2 n2 d2 r2 =>
          rw [hfd] at hres hpc
          obtain ⟨f1, f2, f3, f4, f5⟩ := feed_ok HFO.out.1 hfd
          obtain ⟨t0, t1', t2, t3, m2, c2, k2, dd2, A2, B2, bs2, zs2, rfl, HD2, zs_10, hc2, HB2, ra_10, zl_10, own10, HZ2, HBO⟩ := hres
          obtain rfl := HB2.out
          obtain rfl := HD2.out
          have HG2 : Hid (feed n ⟨x0, x1, y0, y1⟩ (bs ++ unpack (xs.take (64 * (i + 1)))) = .ok (vs ++ vs2) n2 ⟨t0, t1', t2, t3⟩ bs2) := Lib.hid (by rw [Nat.mul_succ]; exact hpc)
          have HFO2 := Lib.hid f1
          have HZ3 : Hid (zs2 = ints (vs ++ vs2)) := Lib.hid (by rw [HZ2.out, HZ.out, ints_app])
          have hk2 : k2 = j + vs2.length := by have h1 := own10.len; have h2 := own9.len; rw [HZ2.out, List.length_append, ints_len] at h1; omega
          have hk3 : k2 + n2 ≤ n := by omega
          clear hpc hfd f1 f3 f4 f5 HB2 HD2 HZ2 HBO hk2 own9b f2
          have ks_10 := zs_10.cell; have fs_10 := zs_10.frozen; have ls_10 := zs_10.lt
          go_wp2
          go_roundg (T - (i + 1))
          case measure => omega
          case rel => exact ⟨i + 1, n2, t0, t1', t2, t3, m2, c2, k2, dd2, w9.heap.size, w10.heap.size, A2, B2, bs2, vs ++ vs2, zs2, by omega, by go_num, HG2, HFO2, hk3, hc2, HZ3, own10, zs_10, zr_10, zl_10, ra_10, Or.inl (by omega), Nat.le_refl _, Lib.hid (fun _ => by omega), bb_10, by omega⟩
    · obtain rfl : i = T := by omega
      have HG2 : Hid (feed n ⟨x0, x1, y0, y1⟩ (bs ++ unpack xs) = .ok vs n' ⟨p0, p1, q0, q1⟩ r) := Lib.hid (by have h := HG.out; rwa [List.take_of_length_le (by rw [HXL.out]; omega)] at h)
      have hlo2 := HLO.out (by omega)
      have hcap := own5.rowC.2
      have hneR : blockOf B ≠ some (w.heap.size + 1) := own5.ne_blk zr_5 (by decide)
      clear HG
      go_wp2
      all_goals
        go_region
        all_goals
          go_wp2
          refine bodyPost_ret (v := .tuple #[.agg #[.int .i64 (n' : Int), .int .i64 (p0 : Int), .int .i64 (p1 : Int), .int .u64 (q0 : Int), .int .u64 (q1 : Int), .slice A' m' c', .int .i64 (((r.length : Nat)) : Int)], .slice B j d, .int .i64 0]) (by simp [results, Tryd.results28, go_sem, kr_5, lr_5, fr_5]) rfl ?_
          rw [HG2.out]
          refine ⟨?_, p0, p1, q0, q1, m', c', j, d, A', B, r, zs, rfl, Lib.hid rfl, hcA, Lib.hid rfl, ?_, hcap, HZ, ?_⟩
          · repeat' (first | (with_reducible assumption) | (with_reducible exact Below.refl _ _) | (with_reducible refine Blk.drewN ?_ _) | (with_reducible refine RowIn.drewN ?_ _) | (with_reducible refine below_drewN ?_ _) | (with_reducible refine Blk.drew ?_) | (with_reducible refine RowIn.drew ?_) | (with_reducible refine Below.drew ?_) | (with_reducible refine Blk.new' ?_ ?_ <;> first | (with_reducible rfl) | (simp; done)) | (with_reducible refine Blk.alloc ?_ _) | (with_reducible refine RowIn.alloc ?_ _) | (with_reducible refine Below.alloc ?_ ?_ _) | (with_reducible apply Blk.set') | (with_reducible apply Blk.far') | (with_reducible refine RowIn.far' ?_ ?_ _) | (with_reducible refine Below.far' ?_ ?_ _) | rfl | omega | go_size)
          · refine RowIn.mono (lo := lo) (hi := hi) ?_ hlo2 (by go_size)
            repeat' (first | (with_reducible assumption) | (with_reducible exact Below.refl _ _) | (with_reducible refine Blk.drewN ?_ _) | (with_reducible refine RowIn.drewN ?_ _) | (with_reducible refine below_drewN ?_ _) | (with_reducible refine Blk.drew ?_) | (with_reducible refine RowIn.drew ?_) | (with_reducible refine Below.drew ?_) | (with_reducible refine Blk.new' ?_ ?_ <;> first | (with_reducible rfl) | (simp; done)) | (with_reducible refine Blk.alloc ?_ _) | (with_reducible refine RowIn.alloc ?_ _) | (with_reducible refine Below.alloc ?_ ?_ _) | (with_reducible apply Blk.set') | (with_reducible apply Blk.far') | (with_reducible refine RowIn.far' ?_ ?_ _) | (with_reducible refine Below.far' ?_ ?_ _) | rfl | omega | go_size)
          · refine Own.rowIn (base := w.heap.size) (e := 27) (c := d) ?_
            repeat' (first | (with_reducible exact own5) | (with_reducible refine Own.far' ?_ hneR _) | (with_reducible refine Own.drew ?_))


end Go.Proofs.YtpohaikbbfochaaDoor

/-
  The examples of chapter 10.
-/
namespace Go.Proofs.YtpohaikbbfochaaDoor
open Go.RowKit Cad Cad.Bit Cad.Code
set_option linter.unusedVariables false
set_option linter.unusedSimpArgs false


def PSt (n p0 p1 q0 q1 m c : Nat) (A : Option Addr) (bs : List Bool) : Value := .agg #[.int .i64 (n : Int), .int .i64 (p0 : Int), .int .i64 (p1 : Int), .int .u64 (q0 : Int), .int .u64 (q1 : Int), .slice A m c, .int .i64 (((bs.length : Nat)) : Int)]
/-- What Feed hands back where all goes well, its results named. -/
theorem rfeed_c (n x0 x1 y0 y1 m c : Nat) (A : Option Addr) (bs : List Bool) (D : Option Addr) (nb cb : Nat) (xs : List Int) {vs : List Nat} {n2 u0 u1 v0 v1 : Nat} {r : List Bool} (w : World) (hn : n ≤ 4000) (hf : FOk n ⟨x0, x1, y0, y1⟩ bs) (ha : Row .u8 w A m (pack bs)) (hc : m ≤ c ∧ c ≤ 9223372036854775807) (hd : Row .u8 w D nb xs) (hdc : nb ≤ cb ∧ cb ≤ 9223372036854775807) (hx : Within 0 255 xs) (ht : Tab w) (hb : nb ≤ 41000) (he : feed n ⟨x0, x1, y0, y1⟩ (bs ++ unpack xs) = .ok vs n2 ⟨u0, u1, v0, v1⟩ r) :
    Calls Tryd.prog 28 #[.agg #[.int .i64 (n : Int), .int .i64 (x0 : Int), .int .i64 (x1 : Int), .int .u64 (y0 : Int), .int .u64 (y1 : Int), .slice A m c, .int .i64 (((bs.length : Nat)) : Int)], .slice D nb cb] w fun e w' => ∃ (m' c' k d : Nat) (A' B : Option Addr) (r' : List Bool) (zs : List Int), e = .returned (.tuple #[.agg #[.int .i64 (n2 : Int), .int .i64 (u0 : Int), .int .i64 (u1 : Int), .int .u64 (v0 : Int), .int .u64 (v1 : Int), .slice A' m' c', .int .i64 (((r'.length : Nat)) : Int)], .slice B k d, .int .i64 0]) ∧ (m' ≤ c' ∧ c' ≤ 9223372036854775807) ∧ Hid (r' = r) ∧ RowIn .u8 w' w.heap.size w'.heap.size A' m' (pack r') ∧ (k ≤ d ∧ d ≤ 9223372036854775807) ∧ Hid (zs = ints vs) ∧ RowIn .u32 w' w.heap.size w'.heap.size B k zs ∧ Below w.heap.size w w' := by
  have h := rfeed_ok n x0 x1 y0 y1 m c A bs D nb cb xs w hn hf ha hc hd hdc hx ht hb
  rw [he] at h
  refine h.mono ?_
  rintro e w' ⟨hbel, p0, p1, q0, q1, m', c', k, d, A', B, r', zs, rfl, HD, h1, h2, h3, h4, h5, h6⟩
  have hd2 := HD.out
  injection hd2 with e1 e2 e3 e4
  exact ⟨m', c', k, d, A', B, r', zs, by rw [e1, e2, e3, e4], h1, h2, h3, h4, h5, h6, hbel⟩
theorem rfeed_e (n x0 x1 y0 y1 m c : Nat) (A : Option Addr) (bs : List Bool) (D : Option Addr) (nb cb : Nat) (xs : List Int) {er : Nat} (w : World) (hn : n ≤ 4000) (hf : FOk n ⟨x0, x1, y0, y1⟩ bs) (ha : Row .u8 w A m (pack bs)) (hc : m ≤ c ∧ c ≤ 9223372036854775807) (hd : Row .u8 w D nb xs) (hdc : nb ≤ cb ∧ cb ≤ 9223372036854775807) (hx : Within 0 255 xs) (ht : Tab w) (hb : nb ≤ 41000) (he : feed n ⟨x0, x1, y0, y1⟩ (bs ++ unpack xs) = .err er) :
    Calls Tryd.prog 28 #[.agg #[.int .i64 (n : Int), .int .i64 (x0 : Int), .int .i64 (x1 : Int), .int .u64 (y0 : Int), .int .u64 (y1 : Int), .slice A m c, .int .i64 (((bs.length : Nat)) : Int)], .slice D nb cb] w (RetF w (.err er)) := by
  have h := rfeed_ok n x0 x1 y0 y1 m c A bs D nb cb xs w hn hf ha hc hd hdc hx ht hb
  rw [he] at h; exact h
theorem ex10a : feed 1 Cad.Code.start ([] ++ unpack [10]) = .ok [] 1 ⟨10, 10, 16384, 16384⟩ (lowBits 10 8) := by rfl
theorem ex10b : feed 1 Cad.Code.start (lowBits 10 8 ++ unpack [0]) = .ok [5] 0 ⟨9, 10, 15365, 16384⟩ [false, false, false, false, false] := by rfl
theorem fok10 {n : Nat} (hn : n ≤ 4000) : FOk n Cad.Code.start [] := ⟨start_ok, by
  split
  · simp
  · rfl⟩
theorem fok10b : FOk 1 Cad.Code.start (lowBits 10 8) := ⟨start_ok, by rw [if_neg (by omega)]; rfl⟩
end Go.Proofs.YtpohaikbbfochaaDoor

/-
  Rows of values of one cell each (slices of slices), as the rows of integers: over any program.
-/
namespace Cad
open Go Go.RowKit Cad.Bit
set_option linter.unusedVariables false

/-- The slice reads as the values vs; its block is lo or younger, and older than hi. -/
def RowV (w : World) (lo hi : Nat) (A : Option Addr) (n : Nat) (vs : List Value) : Prop :=
  vs.length = n ∧ (0 < n → ∃ b off, A = some ⟨b, off, none⟩ ∧ lo ≤ b ∧ b < hi ∧ b < w.heap.size ∧ ∀ j, j < n → w.cell? ⟨b, off + j, none⟩ = vs[j]?)

section
variable {w w' : World} {lo hi : Nat} {A : Option Addr} {n : Nat} {vs : List Value}
theorem RowV.nil : RowV w lo hi A 0 [] := ⟨rfl, fun h => absurd h (by omega)⟩
theorem RowV.keep (h : RowV w lo hi A n vs) (hs : w.heap.size ≤ w'.heap.size) (hk : ∀ p : Addr, lo ≤ p.block → p.block < hi → p.block < w.heap.size → w'.cell? p = w.cell? p) : RowV w' lo hi A n vs :=
  ⟨h.1, fun hn => by
    obtain ⟨b, off, e, h1, h2, h3, hc⟩ := h.2 hn
    exact ⟨b, off, e, h1, h2, by omega, fun j hj => (hk _ h1 h2 h3).trans (hc j hj)⟩⟩
theorem RowV.mono {lo' hi' : Nat} (h : RowV w lo hi A n vs) (h1 : lo' ≤ lo) (h2 : hi ≤ hi') : RowV w lo' hi' A n vs :=
  ⟨h.1, fun hn => by
    obtain ⟨b, off, e, hb, hb2, h3, hc⟩ := h.2 hn
    exact ⟨b, off, e, by omega, by omega, h3, hc⟩⟩
theorem RowV.belowS (h : RowV w lo hi A n vs) (hb : Below w.heap.size w w') : RowV w' lo hi A n vs := h.keep hb.size fun p _ _ h3 => hb.cell h3
theorem RowV.below {B : Nat} (h : RowV w lo hi A n vs) (hb : Below B w w') (hB : hi ≤ B) : RowV w' lo hi A n vs := h.keep hb.size fun p _ h2 _ => hb.cell (by omega)
theorem RowV.alloc (h : RowV w lo hi A n vs) (o : Obj) : RowV (w.alloc o) lo hi A n vs := h.keep (by simp) fun p _ _ h3 => World.cell?_alloc_lt w o p h3
theorem RowV.drew (h : RowV w lo hi A n vs) : RowV w.drew lo hi A n vs := h
theorem RowV.drewN (h : RowV w lo hi A n vs) (m : Nat) : RowV (w.drewN m) lo hi A n vs := h
theorem RowV.far' {b i : Nat} (h : RowV w lo hi A n vs) (hp : b < lo ∨ hi ≤ b) (u : Value) : RowV (w.setCell ⟨b, i, none⟩ u) lo hi A n vs :=
  h.keep (by simp [World.setCell]) fun q h1 h2 _ => World.cell?_setCell_other w ⟨b, i, none⟩ q u (fun e => by subst e; simp only at h1 h2; omega)
end

/-- What the append law asks of an element type of one cell. -/
structure ElemV (P : Program) (t e : TypeId) (z : Value) (by_ : Nat) : Prop where
  slice : P.underlying t = some (.slice e)
  info : ∃ i, P.info? e = some i ∧ i.zero = some z ∧ i.size = 1 ∧ i.bytes = by_
  one : z.cells.size = 1
  small : by_ ≤ 24

/-- A slice of the call's own (its block is 'base' or younger), which reads as the values vs. -/
def OwnV (w : World) (base : Nat) (e : TypeId) (A : Option Addr) (n c : Nat) (vs : List Value) : Prop := w.ownsRow base e 1 (.slice A n c) n vs

section
variable {w w' : World} {base : Nat} {e : TypeId} {A : Option Addr} {n c : Nat} {vs : List Value}
theorem OwnV.nil (w : World) (base : Nat) (e : TypeId) : OwnV w base e none 0 0 [] := World.ownsRow_nil w base e 1
theorem OwnV.len (h : OwnV w base e A n c vs) : vs.length = n := by have := h.1; simpa using this
theorem OwnV.cases (h : OwnV w base e A n c vs) : (A = none ∧ n = 0 ∧ c = 0 ∧ vs = []) ∨ ∃ g rest, A = some ⟨g, 0, none⟩ ∧ base ≤ g ∧ n ≤ c ∧ c ≤ maxLen ∧ n + rest.length = c ∧ Blk w g e (vs ++ rest) := by
  have hl := h.len
  rcases h.2 with ⟨hv, h0⟩ | ⟨g, cap, cur, hv, hb, hh, hnc, hcm, hs, ht⟩
  · injection hv with h1 h2 h3
    exact .inl ⟨h1, h0, h3, List.eq_nil_of_length_eq_zero (by omega)⟩
  · injection hv with h1 h2 h3
    subst h1 h3
    refine .inr ⟨g, cur.toList.drop n, rfl, hb, hnc, hcm, ?_, ?_⟩
    · rw [List.length_drop, Array.length_toList]; omega
    · unfold Blk
      rw [hh]
      have : vs ++ cur.toList.drop n = cur.toList := by
        rw [← ht, Nat.mul_one, List.take_append_drop]
      rw [this]
theorem OwnV.mk {g : Nat} {rest : List Value} (hb : base ≤ g) (hn : vs.length = n) (hc : n + rest.length = c) (hm : c ≤ maxLen) (hk : Blk w g e (vs ++ rest)) : OwnV w base e (some ⟨g, 0, none⟩) n c vs := by
  refine ⟨by simpa using hn, .inr ⟨g, c, (vs ++ rest).toArray, rfl, hb, hk, by omega, hm, by simp; omega, ?_⟩⟩
  subst hn
  rw [show (vs ++ rest).toArray.toList = vs ++ rest from rfl, Nat.mul_one, List.take_left' (by simp)]
theorem OwnV.cap (h : OwnV w base e A n c vs) : n ≤ c ∧ c ≤ 9223372036854775807 := by
  rcases h.cases with ⟨_, h0, h1, _⟩ | ⟨g, rest, _, _, h1, h2, _⟩
  · subst h0 h1; exact ⟨Nat.le_refl _, Nat.zero_le _⟩
  · exact ⟨h1, Nat.le_trans h2 (by simp only [maxLen]; omega)⟩
theorem OwnV.block (h : OwnV w base e A n c vs) : ∀ g, blockOf A = some g → base ≤ g ∧ g < w.heap.size := by
  intro g hg
  exact World.ownsRow.lt h g (by rw [ownBlock_slice]; exact hg)
theorem OwnV.rowV (h : OwnV w base e A n c vs) : RowV w base w.heap.size A n vs := by
  refine ⟨h.len, fun hn => ?_⟩
  have hl := h.len
  rcases h.cases with ⟨_, h0, _⟩ | ⟨g, rest, rfl, hb, _, _, _, hk⟩
  · omega
  · refine ⟨g, 0, rfl, hb, hk.lt, hk.lt, fun j hj => ?_⟩
    rw [Nat.zero_add, hk.cell, List.getElem?_append_left (by omega)]
theorem OwnV.grown {row : Option Nat} (h : OwnV w base e A n c vs) (hg : w.grownBy w' row) (hne : ∀ g, row = some g → blockOf A ≠ some g) : OwnV w' base e A n c vs := by
  refine World.ownsRow.kept h hg ?_
  rw [ownBlock_slice]
  cases row with
  | none => cases A with
    | none => exact .inl rfl
    | some a => exact .inr (by simp [blockOf])
  | some g => exact .inr (hne g rfl)
theorem OwnV.below {B : Nat} (h : OwnV w base e A n c vs) (hb : Below B w w') (hB : w.heap.size ≤ B) : OwnV w' base e A n c vs :=
  World.ownsRow.kept h (only_of_below (hb.mono hB) none) (by cases A with
    | none => exact .inl rfl
    | some a => exact .inr (by simp [Value.ownBlock]))
theorem OwnV.frm {S : Nat → Prop} (h : OwnV w base e A n c vs) (hf : Frm S w w') (hs : ∀ g, blockOf A = some g → ¬ S g) : OwnV w' base e A n c vs := by
  rcases h.cases with ⟨rfl, rfl, rfl, rfl⟩ | ⟨g, rest, rfl, hb, hnc, hcm, hr, hk⟩
  · exact OwnV.nil _ _ _
  · exact OwnV.mk hb h.len hr hcm (hk.frm hf (hs g rfl))
theorem OwnV.ne_blk {g : Nat} {t : TypeId} {l : List Value} (h : OwnV w base e A n c vs) (hg : Blk w g t l) (hne : e ≠ t) : blockOf A ≠ some g := by
  rcases h.cases with ⟨rfl, _⟩ | ⟨g', rest, rfl, _, _, _, _, hk⟩
  · intro h; cases h
  · intro he
    have : g' = g := by simpa [blockOf] using he
    subst this
    unfold Blk at hk hg
    rw [hk] at hg
    injection hg with hg
    injection hg with _ ht
    exact hne ht
theorem OwnV.drewN (h : OwnV w base e A n c vs) (m : Nat) : OwnV (w.drewN m) base e A n c vs := h
theorem OwnV.drew (h : OwnV w base e A n c vs) : OwnV w.drew base e A n c vs := h
theorem OwnV.alloc (h : OwnV w base e A n c vs) (o : Obj) : OwnV (w.alloc o) base e A n c vs := World.ownsRow.alloc h o
theorem OwnV.far' {b i : Nat} (h : OwnV w base e A n c vs) (hb : blockOf A ≠ some b) (u : Value) : OwnV (w.setCell ⟨b, i, none⟩ u) base e A n c vs :=
  h.frm (S := fun j => j = b) ((Frm.refl (fun j => j = b) w).setCell (p := ⟨b, i, none⟩) (fun _ => rfl) u) (fun j e hj => hb (by rw [e, hj]))
end

section
variable {P : Program} (w : World)

theorem run_appV {t e : TypeId} {z : Value} {by_ : Nat} (E : ElemV P t e z by_) (ty : TypeId) (base : Nat) (A : Option Addr) (n c : Nat) (xs : List Value) (hown : OwnV w base e A n c xs)
    (ad : Addr) (m d : Nat) (ys : List Value) (hl : ys.length = m) (hr : ∀ j u, ys[j]? = some u → w.cell? (ad.add j) = some u) (h1 : ∀ u ∈ ys, u.oneCell' = true) (hsm : n + m ≤ 1000000) (hbase : base ≤ w.heap.size) :
    ∃ A' c' w', (Builtin.append_ #[t, t] ty #[.slice A n c, .slice (some ad) m d]).run P w = .ok (.slice A' (n + m) c') w' ∧ OwnV w' base e A' (n + m) c' (xs ++ ys) ∧ w.grownBy w' (blockOf A) ∧
      (blockOf A' = blockOf A ∨ blockOf A' = some w.heap.size) := by
  obtain ⟨i, hi, hz, hs, hby⟩ := E.info
  have hsm' : (n + m) * by_ ≤ 140737488355328 := by
    have := E.small
    calc (n + m) * by_ ≤ 1000000 * 24 := Nat.mul_le_mul hsm this
      _ ≤ 140737488355328 := by omega
  obtain ⟨v', w', hrun, h2, h3, _, h4⟩ := run_append_own_at (P := P) w base t ty e i z 1 by_ E.slice hi hz hs hby E.one (by omega) (.slice A n c) n xs hown ad m d ys
    (by omega) hr h1 (by simp only [maxLen]; omega) hsm' hbase
  have hform : ∃ A' c', v' = .slice A' (n + m) c' := by
    rcases h2.2 with ⟨rfl, h0⟩ | ⟨g, cap, cur, rfl, _⟩
    · exact ⟨none, 0, by rw [h0]⟩
    · exact ⟨_, cap, rfl⟩
  obtain ⟨A', c', rfl⟩ := hform
  rw [ownBlock_slice, ownBlock_slice] at h4
  rw [ownBlock_slice] at h3
  exact ⟨A', c', w', hrun, h2, h3, h4⟩
theorem wp_appV {o : Oper} {a : Act} {K : Act → World → Prop} {Q : Exit → Act → World → Prop} {t e : TypeId} {z : Value} {by_ : Nat} (E : ElemV P t e z by_) (s x : Operand)
    (ho : o.op = .call { callee := .builtin .append, args := #[s, x], argTypes := #[t, t] })
    (base : Nat) (A : Option Addr) (n c : Nat) (xs : List Value) (hs : a.eval s = .slice A n c) (hown : OwnV w base e A n c xs)
    (ad : Addr) (m d : Nat) (ys : List Value) (hx : a.eval x = .slice (some ad) m d) (hl : ys.length = m) (hr : ∀ j u, ys[j]? = some u → w.cell? (ad.add j) = some u) (h1 : ∀ u ∈ ys, u.oneCell' = true) (hsm : n + m ≤ 1000000) (hbase : base ≤ w.heap.size)
    (h : ∀ A' c' w', OwnV w' base e A' (n + m) c' (xs ++ ys) → w.grownBy w' (blockOf A) → (blockOf A' = blockOf A ∨ blockOf A' = some w.heap.size) → K (a.put o.dst (.slice A' (n + m) c')) w') : o.wp P a w K Q := by
  obtain ⟨A', c', w', hrun, h2, h3, h4⟩ := run_appV w E o.type base A n c xs hown ad m d ys hl hr h1 hsm hbase
  unfold Oper.wp execOp
  simp only [ho, resolve, invoke, builtin, Sem.run_bind, Sem.run_pure, Result.andThen_ok, List.map_toArray, List.map_cons, List.map_nil, hs, hx, hrun]
  exact h A' c' w' h2 h3 h4
/-- 'append(s, x)' of values of one cell: s is the call's own, the new ones stand in a fresh block. -/
theorem wpList_appV {ops : Array Oper} {rest : List Oper} {o : Oper} {a : Act} {Q : Exit → Act → World → Prop} {t e : TypeId} {z : Value} {by_ : Nat} (E : ElemV P t e z by_) (hgd : o.guard = none) (s x : Operand)
    (ho : o.op = .call { callee := .builtin .append, args := #[s, x], argTypes := #[t, t] })
    (base : Nat) (A : Option Addr) (n c : Nat) (xs : List Value) (hs : a.eval s = .slice A n c) (hown : OwnV w base e A n c xs)
    (ad : Addr) (m d : Nat) (ys : List Value) (hx : a.eval x = .slice (some ad) m d) (hl : ys.length = m) (hr : ∀ j u, ys[j]? = some u → w.cell? (ad.add j) = some u) (h1 : ∀ u ∈ ys, u.oneCell' = true) (hsm : n + m ≤ 1000000) (hbase : base ≤ w.heap.size)
    (h : ∀ A' c' w', OwnV w' base e A' (n + m) c' (xs ++ ys) → w.grownBy w' (blockOf A) → (blockOf A' = blockOf A ∨ blockOf A' = some w.heap.size) → wpList P ops Q rest (a.put o.dst (.slice A' (n + m) c')) w') :
    wpList P ops Q (o :: rest) a w :=
  wpList_plain hgd fun _ hK => wp_appV w E s x ho base A n c xs hs hown ad m d ys hx hl hr h1 hsm hbase fun A' c' w' h2 h3 h4 => hK _ _ (h A' c' w' h2 h3 h4)
end

/-- The cells of a fresh block, as 'append' reads them. -/
theorem fresh_cells {w : World} {g : Nat} {t : TypeId} {l : List Value} (h : Blk w g t l) : ∀ j u, l[j]? = some u → w.cell? ((⟨g, 0, none⟩ : Addr).add j) = some u := fun j u hu => by
  have e : (⟨g, 0, none⟩ : Addr).add j = ⟨g, j, none⟩ := by
    unfold Addr.add
    by_cases h0 : j = 0 <;> simp [h0]
  rw [e, h.cell]; exact hu
theorem Blk.far7 {w : World} {g b : Nat} {t : TypeId} {l : List Value} {u0 u1 u2 u3 u4 u5 u6 : Value} (h : Blk w g t l) (hp : g ≠ b) : Blk (((((((w.setCell ⟨b, 0, none⟩ u0).setCell ⟨b, 1, none⟩ u1).setCell ⟨b, 2, none⟩ u2).setCell ⟨b, 3, none⟩ u3).setCell ⟨b, 4, none⟩ u4).setCell ⟨b, 5, none⟩ u5).setCell ⟨b, 6, none⟩ u6) g t l := (Blk.far' (Blk.far' (Blk.far' (Blk.far' (Blk.far' (Blk.far' (Blk.far' h hp u0) hp u1) hp u2) hp u3) hp u4) hp u5) hp u6)
theorem RowIn.far7 {w : World} {k : IntKind} {lo hi b n : Nat} {A : Option Addr} {xs : List Int} {u0 u1 u2 u3 u4 u5 u6 : Value} (h : RowIn k w lo hi A n xs) (hp : b < lo ∨ hi ≤ b) : RowIn k (((((((w.setCell ⟨b, 0, none⟩ u0).setCell ⟨b, 1, none⟩ u1).setCell ⟨b, 2, none⟩ u2).setCell ⟨b, 3, none⟩ u3).setCell ⟨b, 4, none⟩ u4).setCell ⟨b, 5, none⟩ u5).setCell ⟨b, 6, none⟩ u6) lo hi A n xs := (RowIn.far' (RowIn.far' (RowIn.far' (RowIn.far' (RowIn.far' (RowIn.far' (RowIn.far' h hp u0) hp u1) hp u2) hp u3) hp u4) hp u5) hp u6)
theorem Below.far7 {w a : World} {B b : Nat} {u0 u1 u2 u3 u4 u5 u6 : Value} (h : Below B a w) (hp : B ≤ b) : Below B a (((((((w.setCell ⟨b, 0, none⟩ u0).setCell ⟨b, 1, none⟩ u1).setCell ⟨b, 2, none⟩ u2).setCell ⟨b, 3, none⟩ u3).setCell ⟨b, 4, none⟩ u4).setCell ⟨b, 5, none⟩ u5).setCell ⟨b, 6, none⟩ u6) := (Below.far' (Below.far' (Below.far' (Below.far' (Below.far' (Below.far' (Below.far' h hp u0) hp u1) hp u2) hp u3) hp u4) hp u5) hp u6)
theorem Own.far7 {w : World} {base b : Nat} {e : TypeId} {k : IntKind} {A : Option Addr} {n c : Nat} {xs : List Int} {u0 u1 u2 u3 u4 u5 u6 : Value} (h : Own w base e k A n c xs) (hp : blockOf A ≠ some b) : Own (((((((w.setCell ⟨b, 0, none⟩ u0).setCell ⟨b, 1, none⟩ u1).setCell ⟨b, 2, none⟩ u2).setCell ⟨b, 3, none⟩ u3).setCell ⟨b, 4, none⟩ u4).setCell ⟨b, 5, none⟩ u5).setCell ⟨b, 6, none⟩ u6) base e k A n c xs := (Own.far' (Own.far' (Own.far' (Own.far' (Own.far' (Own.far' (Own.far' h hp u0) hp u1) hp u2) hp u3) hp u4) hp u5) hp u6)
theorem Blk.set7 {w : World} {b : Nat} {t : TypeId} {a0 a1 a2 a3 a4 a5 a6 u0 u1 u2 u3 u4 u5 u6 : Value} (h : Blk w b t [a0, a1, a2, a3, a4, a5, a6]) : Blk (((((((w.setCell ⟨b, 0, none⟩ u0).setCell ⟨b, 1, none⟩ u1).setCell ⟨b, 2, none⟩ u2).setCell ⟨b, 3, none⟩ u3).setCell ⟨b, 4, none⟩ u4).setCell ⟨b, 5, none⟩ u5).setCell ⟨b, 6, none⟩ u6) b t [u0, u1, u2, u3, u4, u5, u6] := (Blk.set' (l0 := [u0, u1, u2, u3, u4, u5, a6]) (Blk.set' (l0 := [u0, u1, u2, u3, u4, a5, a6]) (Blk.set' (l0 := [u0, u1, u2, u3, a4, a5, a6]) (Blk.set' (l0 := [u0, u1, u2, a3, a4, a5, a6]) (Blk.set' (l0 := [u0, u1, a2, a3, a4, a5, a6]) (Blk.set' (l0 := [u0, a1, a2, a3, a4, a5, a6]) (Blk.set' (l0 := [a0, a1, a2, a3, a4, a5, a6]) h rfl) rfl) rfl) rfl) rfl) rfl) rfl)
/-- A row of integers does not lie in a block that has no such integers: it stays when that block is written. -/
theorem far7_ne {w : World} {k : IntKind} {lo hi b n : Nat} {A : Option Addr} {xs : List Int} {t : TypeId} {l : List Value} {u0 u1 u2 u3 u4 u5 u6 : Value} (h : RowIn k w lo hi A n xs) (hb : Blk w b t l) (hl : ∀ (i : Nat) (v : Int), l[i]? = some (.int k v) → False) : RowIn k (((((((w.setCell ⟨b, 0, none⟩ u0).setCell ⟨b, 1, none⟩ u1).setCell ⟨b, 2, none⟩ u2).setCell ⟨b, 3, none⟩ u3).setCell ⟨b, 4, none⟩ u4).setCell ⟨b, 5, none⟩ u5).setCell ⟨b, 6, none⟩ u6) lo hi A n xs := by
  by_cases hn : n = 0
  · exact ⟨h.1, fun h0 => absurd h0 (by omega)⟩
  · obtain ⟨b0, off, e, h1, h2, hc⟩ := h.2 (by omega)
    have hne : b ≠ b0 := by
      rintro rfl
      have h3 := hc 0 (by omega)
      rw [hb.cell] at h3
      exact hl _ _ h3
    have h4 : RowIn k w b0 (b0 + 1) A n xs := ⟨h.1, fun _ => ⟨b0, off, e, Nat.le_refl _, Nat.lt_succ_self _, hc⟩⟩
    exact (RowIn.far7 h4 (by omega)).mono h1 h2
end Cad
