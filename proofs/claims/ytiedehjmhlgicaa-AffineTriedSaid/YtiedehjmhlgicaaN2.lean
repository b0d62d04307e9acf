/- A call of meet returns what its plain definition tells, and changes no block that was there before. -/
import Derived.Test.YtiedehjmhlgicaaN3
namespace Go.Proofs.Ytiedehjmhlgicaa.PAll
open Go.RowKit Go.Proofs.YtiedehjmhlgicaaW.PrintWords Go.Proofs.YtiedehjmhlgicaaW.PrintLast Go.Proofs.YtiedehjmhlgicaaW.PrintMore

theorem blk_now {W : World} {g : Nat} {o : Obj} (h : g = W.heap.size) : (W.alloc o).heap[g]? = some o := by subst h; exact blk_new W o
theorem two_cells {w : World} {g t : Nat} {v0 v1 : Value} (h : w.heap[g]? = some (.cells #[v0, v1] t (0, 0))) :
    w.cell? ⟨g, 0, none⟩ = some v0 ∧ w.cell? ⟨g, 1, none⟩ = some v1 ∧ w.frozen? ⟨g, 0, none⟩ = false ∧ w.frozen? ⟨g, 1, none⟩ = false :=
  ⟨(blk_cell h 0).trans rfl, (blk_cell h 1).trans rfl, blk_frozen h 0, blk_frozen h 1⟩
theorem four_cells {w : World} {g t : Nat} {v0 v1 v2 v3 : Value} (h : w.heap[g]? = some (.cells #[v0, v1, v2, v3] t (0, 0))) :
    w.cell? ⟨g, 0, none⟩ = some v0 ∧ w.cell? ⟨g, 1, none⟩ = some v1 ∧ w.cell? ⟨g, 2, none⟩ = some v2 ∧ w.cell? ⟨g, 3, none⟩ = some v3 ∧
    w.frozen? ⟨g, 0, none⟩ = false ∧ w.frozen? ⟨g, 1, none⟩ = false ∧ w.frozen? ⟨g, 2, none⟩ = false ∧ w.frozen? ⟨g, 3, none⟩ = false :=
  ⟨(blk_cell h 0).trans rfl, (blk_cell h 1).trans rfl, (blk_cell h 2).trans rfl, (blk_cell h 3).trans rfl, blk_frozen h 0, blk_frozen h 1, blk_frozen h 2, blk_frozen h 3⟩
theorem seven_cells {w : World} {g t : Nat} {v0 v1 v2 v3 v4 v5 v6 : Value} (h : w.heap[g]? = some (.cells #[v0, v1, v2, v3, v4, v5, v6] t (0, 0))) :
    (w.cell? ⟨g, 0, none⟩ = some v0 ∧ w.cell? ⟨g, 1, none⟩ = some v1 ∧ w.cell? ⟨g, 2, none⟩ = some v2 ∧ w.cell? ⟨g, 3, none⟩ = some v3 ∧ w.cell? ⟨g, 4, none⟩ = some v4 ∧ w.cell? ⟨g, 5, none⟩ = some v5 ∧ w.cell? ⟨g, 6, none⟩ = some v6) ∧
    (w.frozen? ⟨g, 0, none⟩ = false ∧ w.frozen? ⟨g, 1, none⟩ = false ∧ w.frozen? ⟨g, 2, none⟩ = false ∧ w.frozen? ⟨g, 3, none⟩ = false ∧ w.frozen? ⟨g, 4, none⟩ = false ∧ w.frozen? ⟨g, 5, none⟩ = false ∧ w.frozen? ⟨g, 6, none⟩ = false) :=
  ⟨⟨(blk_cell h 0).trans rfl, (blk_cell h 1).trans rfl, (blk_cell h 2).trans rfl, (blk_cell h 3).trans rfl, (blk_cell h 4).trans rfl, (blk_cell h 5).trans rfl, (blk_cell h 6).trans rfl⟩, blk_frozen h 0, blk_frozen h 1, blk_frozen h 2, blk_frozen h 3, blk_frozen h 4, blk_frozen h 5, blk_frozen h 6⟩

theorem set_two {w : World} {g t : Nat} {v0 v1 : Value} (h : w.heap[g]? = some (.cells #[v0, v1] t (0, 0))) (u0 u1 : Value) :
    ((w.setCell ⟨g, 0, none⟩ u0).setCell ⟨g, 1, none⟩ u1).heap[g]? = some (.cells #[u0, u1] t (0, 0)) := by
  have h0 := blk_put (cs' := #[u0, v1]) h 0 u0 rfl
  have h1 := blk_put (cs' := #[u0, u1]) h0 1 u1 rfl
  exact h1
theorem set_four {w : World} {g t : Nat} {v0 v1 v2 v3 : Value} (h : w.heap[g]? = some (.cells #[v0, v1, v2, v3] t (0, 0))) (u0 u1 u2 u3 : Value) :
    ((((w.setCell ⟨g, 0, none⟩ u0).setCell ⟨g, 1, none⟩ u1).setCell ⟨g, 2, none⟩ u2).setCell ⟨g, 3, none⟩ u3).heap[g]? = some (.cells #[u0, u1, u2, u3] t (0, 0)) := by
  have h0 := blk_put (cs' := #[u0, v1, v2, v3]) h 0 u0 rfl
  have h1 := blk_put (cs' := #[u0, u1, v2, v3]) h0 1 u1 rfl
  have h2 := blk_put (cs' := #[u0, u1, u2, v3]) h1 2 u2 rfl
  have h3 := blk_put (cs' := #[u0, u1, u2, u3]) h2 3 u3 rfl
  exact h3
theorem set_seven {w : World} {g t : Nat} {v0 v1 v2 v3 v4 v5 v6 : Value} (h : w.heap[g]? = some (.cells #[v0, v1, v2, v3, v4, v5, v6] t (0, 0))) (u0 u1 u2 u3 u4 u5 u6 : Value) :
    (((((((w.setCell ⟨g, 0, none⟩ u0).setCell ⟨g, 1, none⟩ u1).setCell ⟨g, 2, none⟩ u2).setCell ⟨g, 3, none⟩ u3).setCell ⟨g, 4, none⟩ u4).setCell ⟨g, 5, none⟩ u5).setCell ⟨g, 6, none⟩ u6).heap[g]? = some (.cells #[u0, u1, u2, u3, u4, u5, u6] t (0, 0)) := by
  have h0 := blk_put (cs' := #[u0, v1, v2, v3, v4, v5, v6]) h 0 u0 rfl
  have h1 := blk_put (cs' := #[u0, u1, v2, v3, v4, v5, v6]) h0 1 u1 rfl
  have h2 := blk_put (cs' := #[u0, u1, u2, v3, v4, v5, v6]) h1 2 u2 rfl
  have h3 := blk_put (cs' := #[u0, u1, u2, u3, v4, v5, v6]) h2 3 u3 rfl
  have h4 := blk_put (cs' := #[u0, u1, u2, u3, u4, v5, v6]) h3 4 u4 rfl
  have h5 := blk_put (cs' := #[u0, u1, u2, u3, u4, u5, v6]) h4 5 u5 rfl
  have h6 := blk_put (cs' := #[u0, u1, u2, u3, u4, u5, u6]) h5 6 u6 rfl
  exact h6
/-- What meet hands back. -/
abbrev metV (x0 x1 x2 x3 f t : Int) (all ok : Bool) : Value := .tuple #[.agg #[.int .i64 x0, .int .i64 x1, .int .i64 x2, .int .i64 x3, .int .i64 f, .int .i64 t, .bool all], .bool ok]

set_option maxHeartbeats 400000 in
theorem meet_early (pb ps qb qs n m : Int) (w : World) (h : decide (n ≤ 0) = true ∨ decide (n ≤ 0) = false ∧ decide (m ≤ 0) = true) :
    Calls Try.prog 37 #[.agg #[.int .i64 pb, .int .i64 ps], .agg #[.int .i64 qb, .int .i64 qs], .int .i64 n, .int .i64 m] w fun e w' => e = .returned (metV 0 0 0 0 0 0 false false) ∧ Below w.heap.size w w' := by
  rcases h with h1 | ⟨h1, h2⟩
  all_goals
    go_enter Try.func37, Try.ntmps37
    go_wp2_with fail
    refine bodyPost_ret (v := metV 0 0 0 0 0 0 false false) (by simp [results, Try.results37, go_sem]) rfl ⟨rfl, ?_⟩
    repeat (with_reducible first | exact Below.refl _ _ | apply below_alloc | apply pw_below_drewN | apply below_drew1)

set_option maxHeartbeats 400000 in
theorem meet_none (pb ps qb qs n m X DX Y DY : Int) (w : World) (h1 : decide (n ≤ 0) = false) (h2 : decide (m ≤ 0) = false) (k : Nat) (hs : affine_solve.f k ps (wrap64 (-qs)) (wrap64 (qb - pb)) = some (X, DX, Y, DY, false)) :
    Calls Try.prog 37 #[.agg #[.int .i64 pb, .int .i64 ps], .agg #[.int .i64 qb, .int .i64 qs], .int .i64 n, .int .i64 m] w fun e w' => e = .returned (metV 0 0 0 0 0 0 false false) ∧ Below w.heap.size w w' := by
  have HS := Aside0.mk hs; clear hs
  go_enter Try.func37, Try.ntmps37
  go_wp2_with fail
  refine (affine_solve.calls k ps (wrap64 (-qs)) (wrap64 (qb - pb)) X DX Y DY false _ HS.out).mono ?_
  rintro e w1 ⟨rfl, hb⟩
  have B8 := blk_below (g := w.heap.size + 1 + 1) (o := .cells #[.int .i64 0, .int .i64 0, .int .i64 0, .int .i64 0, .int .i64 0, .int .i64 0, .bool false] 70 (0, 0)) (by repeat (with_reducible first | refine blk_drewN ?_ _ | refine blk_drew ?_ | exact blk_now (by simp) | refine blk_alloc ?_ _)) hb
  have HB := Aside0.mk hb
  have hz : w.heap.size + 1 + 1 < w1.heap.size := by have := hb.size; simp at this; omega
  clear hb
  obtain ⟨⟨c0, c1, c2, c3, c4, c5, c6⟩, f0, f1, f2, f3, f4, f5, f6⟩ := seven_cells B8
  clear B8
  go_wp2_with fail
  refine bodyPost_ret (v := metV 0 0 0 0 0 0 false false) (by simp [results, Try.results37, go_sem, c0, c1, c2, c3, c4, c5, c6, hz]) rfl ⟨rfl, ?_⟩
  repeat (with_reducible first | exact Below.refl _ _ | apply below_alloc | apply pw_below_drewN | apply below_drew1 | refine below_set ?_ ?_ | refine below_step ?_ HB.out)
  all_goals omega

set_option maxHeartbeats 1000000 in
theorem meet_all (pb ps qb qs n m X DX Y DY : Int) (w : World) (h1 : decide (n ≤ 0) = false) (h2 : decide (m ≤ 0) = false) (hp : (ps == 0) = true) (hq : (qs == 0) = true) (k : Nat) (hs : affine_solve.f k ps (wrap64 (-qs)) (wrap64 (qb - pb)) = some (X, DX, Y, DY, true)) :
    Calls Try.prog 37 #[.agg #[.int .i64 pb, .int .i64 ps], .agg #[.int .i64 qb, .int .i64 qs], .int .i64 n, .int .i64 m] w fun e w' => e = .returned (metV X DX Y DY (-1099511627776) 1099511627776 true true) ∧ Below w.heap.size w w' := by
  have HS := Aside0.mk hs; clear hs
  go_enter Try.func37, Try.ntmps37
  go_wp2_with fail
  refine (affine_solve.calls k ps (wrap64 (-qs)) (wrap64 (qb - pb)) X DX Y DY true _ HS.out).mono ?_
  rintro e w1 ⟨rfl, hb⟩
  have B4 := blk_below (g := w.heap.size) (o := .cells #[.int .i64 pb, .int .i64 ps] 33 (0, 0)) (by repeat (with_reducible first | refine blk_drewN ?_ _ | refine blk_drew ?_ | exact blk_now (by simp) | refine blk_alloc ?_ _)) hb
  have B5 := blk_below (g := w.heap.size + 1) (o := .cells #[.int .i64 qb, .int .i64 qs] 33 (0, 0)) (by repeat (with_reducible first | refine blk_drewN ?_ _ | refine blk_drew ?_ | exact blk_now (by simp) | refine blk_alloc ?_ _)) hb
  have B8 := blk_below (g := w.heap.size + 1 + 1) (o := .cells #[.int .i64 0, .int .i64 0, .int .i64 0, .int .i64 0, .int .i64 0, .int .i64 0, .bool false] 70 (0, 0)) (by repeat (with_reducible first | refine blk_drewN ?_ _ | refine blk_drew ?_ | exact blk_now (by simp) | refine blk_alloc ?_ _)) hb
  have HB := Aside0.mk hb
  have hz : w.heap.size + 1 + 1 < w1.heap.size := by have := hb.size; simp at this; omega
  have hz1 : w.heap.size + 1 < w1.heap.size := by omega
  have hz0 : w.heap.size < w1.heap.size := by omega
  clear hb
  obtain ⟨⟨c0, c1, c2, c3, c4, c5, c6⟩, f0, f1, f2, f3, f4, f5, f6⟩ := seven_cells B8
  obtain ⟨p0, p1, pf0, pf1⟩ := two_cells B4
  obtain ⟨q0, q1, qf0, qf1⟩ := two_cells B5
  have K8 := Aside0.mk B8
  clear B8 B4 B5
  go_wp2_with fail
  refine bodyPost_ret (results_ct rfl _ _ (w.heap.size + 1 + 1) 70 #[.int .i64 X, .int .i64 DX, .int .i64 Y, .int .i64 DY, .int .i64 (-1099511627776), .int .i64 1099511627776, .bool true] (0, 0) _ rfl (by repeat (with_reducible first | refine blk_drewN ?_ _ | refine blk_drew ?_ | refine blk_alloc ?_ _ | exact set_seven K8.out _ _ _ _ _ _ _ | exact K8.out)) Try.underlying70 rfl (by kernel_rfl)) rfl ⟨rfl, ?_⟩
  repeat (with_reducible first | exact Below.refl _ _ | apply below_alloc | apply pw_below_drewN | apply below_drew1 | refine below_set ?_ ?_ | refine below_step ?_ HB.out)
  all_goals omega

set_option maxHeartbeats 1000000 in
theorem meet_out (pb ps qb qs n m X DX Y DY f1 t1 : Int) (w : World) (h1 : decide (n ≤ 0) = false) (h2 : decide (m ≤ 0) = false) (hpq : (ps == 0) = false ∨ (ps == 0) = true ∧ (qs == 0) = false) (k : Nat) (hs : affine_solve.f k ps (wrap64 (-qs)) (wrap64 (qb - pb)) = some (X, DX, Y, DY, true))
    (hw1 : affine_span_within.f (-1099511627776) 1099511627776 X DX n = some (f1, t1, false)) :
    Calls Try.prog 37 #[.agg #[.int .i64 pb, .int .i64 ps], .agg #[.int .i64 qb, .int .i64 qs], .int .i64 n, .int .i64 m] w fun e w' => e = .returned (metV 0 0 0 0 0 0 false false) ∧ Below w.heap.size w w' := by
  have HS := Aside0.mk hs; clear hs
  have HW := Aside0.mk hw1; clear hw1
  rcases hpq with hp | ⟨hp, hq⟩
  all_goals
    go_enter Try.func37, Try.ntmps37
    go_wp2_with fail
    refine (affine_solve.calls k ps (wrap64 (-qs)) (wrap64 (qb - pb)) X DX Y DY true _ HS.out).mono ?_
    rintro e w1 ⟨rfl, hb⟩
    have B4 := blk_below (g := w.heap.size) (o := .cells #[.int .i64 pb, .int .i64 ps] 33 (0, 0)) (by repeat (with_reducible first | refine blk_drewN ?_ _ | refine blk_drew ?_ | exact blk_now (by simp) | refine blk_alloc ?_ _)) hb
    have B5 := blk_below (g := w.heap.size + 1) (o := .cells #[.int .i64 qb, .int .i64 qs] 33 (0, 0)) (by repeat (with_reducible first | refine blk_drewN ?_ _ | refine blk_drew ?_ | exact blk_now (by simp) | refine blk_alloc ?_ _)) hb
    have B8 := blk_below (g := w.heap.size + 1 + 1) (o := .cells #[.int .i64 0, .int .i64 0, .int .i64 0, .int .i64 0, .int .i64 0, .int .i64 0, .bool false] 70 (0, 0)) (by repeat (with_reducible first | refine blk_drewN ?_ _ | refine blk_drew ?_ | exact blk_now (by simp) | refine blk_alloc ?_ _)) hb
    have HB := Aside0.mk hb
    have hz : w.heap.size + 1 + 1 < w1.heap.size := by have := hb.size; simp at this; omega
    have hz1 : w.heap.size + 1 < w1.heap.size := by omega
    have hz0 : w.heap.size < w1.heap.size := by omega
    clear hb
    obtain ⟨p0, p1, pf0, pf1⟩ := two_cells B4
    obtain ⟨q0, q1, qf0, qf1⟩ := two_cells B5
    have K8 := Aside0.mk B8
    clear B8 B4 B5
    go_wp2_with fail
    refine (affine_span_within.calls _ _ _ _ _ f1 t1 false _ HW.out).mono ?_
    rintro e w2 ⟨rfl, hb⟩
    have B8 := blk_below (g := w.heap.size + 1 + 1) (o := .cells #[.int .i64 0, .int .i64 0, .int .i64 0, .int .i64 0, .int .i64 0, .int .i64 0, .bool false] 70 (0, 0)) (by repeat (with_reducible first | exact K8.out | refine blk_alloc ?_ _)) hb
    have B12 := blk_below (g := w1.heap.size + 1) (o := .cells #[.int .i64 X, .int .i64 DX, .int .i64 Y, .int .i64 DY, .int .i64 (-1099511627776), .int .i64 1099511627776, .bool false] 70 (0, 0)) (blk_now (by simp)) hb
    have HB2 := Aside0.mk hb
    have hy : w1.heap.size + 1 < w2.heap.size := by have := hb.size; simp at this; omega
    clear hb HS HW
    obtain ⟨⟨c0, c1, c2, c3, c4, c5, c6⟩, f0, f1, f2, f3, f4, f5, f6⟩ := seven_cells B8
    obtain ⟨⟨o0, o1, o2, o3, o4, o5, o6⟩, e0, e1, e2, e3, e4, e5, e6⟩ := seven_cells B12
    clear K8
    have K8 := Aside0.mk B8
    clear B8 B12 p0 p1 q0 q1 pf0 pf1 qf0 qf1
    have hne : ¬ w.heap.size + 1 + 1 = w1.heap.size + 1 := by omega
    go_wp2_with fail
    refine bodyPost_ret (results_ct rfl _ _ (w.heap.size + 1 + 1) 70 #[.int .i64 0, .int .i64 0, .int .i64 0, .int .i64 0, .int .i64 0, .int .i64 0, .bool false] (0, 0) _ rfl ?_ Try.underlying70 rfl (by kernel_rfl)) rfl ⟨rfl, ?_⟩
    · repeat (with_reducible first | refine blk_drewN ?_ _ | refine blk_drew ?_ | refine blk_alloc ?_ _ | refine set_seven (v0 := .int .i64 0) (v1 := .int .i64 0) (v2 := .int .i64 0) (v3 := .int .i64 0) (v4 := .int .i64 0) (v5 := .int .i64 0) (v6 := .bool false) ?_ _ _ _ _ _ _ _ | exact K8.out | refine blk_far ?_ ?_ _)
      all_goals (simp; omega)
    · repeat (with_reducible first | exact Below.refl _ _ | apply below_alloc | apply pw_below_drewN | apply below_drew1 | refine below_set ?_ ?_ | refine below_step ?_ HB2.out | refine below_step ?_ HB.out)
      all_goals omega

set_option maxHeartbeats 2000000 in
theorem meet_in (pb ps qb qs n m X DX Y DY f1 t1 f2 t2 : Int) (ok : Bool) (w : World) (h1 : decide (n ≤ 0) = false) (h2 : decide (m ≤ 0) = false) (hpq : (ps == 0) = false ∨ (ps == 0) = true ∧ (qs == 0) = false) (k : Nat) (hs : affine_solve.f k ps (wrap64 (-qs)) (wrap64 (qb - pb)) = some (X, DX, Y, DY, true))
    (hw1 : affine_span_within.f (-1099511627776) 1099511627776 X DX n = some (f1, t1, true)) (hw2 : affine_span_within.f f1 t1 Y DY m = some (f2, t2, ok)) :
    Calls Try.prog 37 #[.agg #[.int .i64 pb, .int .i64 ps], .agg #[.int .i64 qb, .int .i64 qs], .int .i64 n, .int .i64 m] w fun e w' => e = .returned (metV X DX Y DY f2 t2 false ok) ∧ Below w.heap.size w w' := by
  have HS := Aside0.mk hs; clear hs
  have HW := Aside0.mk hw1; clear hw1
  have HV := Aside0.mk hw2; clear hw2
  rcases hpq with hp | ⟨hp, hq⟩
  all_goals
    go_enter Try.func37, Try.ntmps37
    go_wp2_with fail
    refine (affine_solve.calls k ps (wrap64 (-qs)) (wrap64 (qb - pb)) X DX Y DY true _ HS.out).mono ?_
    rintro e w1 ⟨rfl, hb⟩
    have B4 := blk_below (g := w.heap.size) (o := .cells #[.int .i64 pb, .int .i64 ps] 33 (0, 0)) (by repeat (with_reducible first | refine blk_drewN ?_ _ | refine blk_drew ?_ | exact blk_now (by simp) | refine blk_alloc ?_ _)) hb
    have B5 := blk_below (g := w.heap.size + 1) (o := .cells #[.int .i64 qb, .int .i64 qs] 33 (0, 0)) (by repeat (with_reducible first | refine blk_drewN ?_ _ | refine blk_drew ?_ | exact blk_now (by simp) | refine blk_alloc ?_ _)) hb
    have B8 := blk_below (g := w.heap.size + 1 + 1) (o := .cells #[.int .i64 0, .int .i64 0, .int .i64 0, .int .i64 0, .int .i64 0, .int .i64 0, .bool false] 70 (0, 0)) (by repeat (with_reducible first | refine blk_drewN ?_ _ | refine blk_drew ?_ | exact blk_now (by simp) | refine blk_alloc ?_ _)) hb
    have HB := Aside0.mk hb
    have hz : w.heap.size + 1 + 1 < w1.heap.size := by have := hb.size; simp at this; omega
    have hz1 : w.heap.size + 1 < w1.heap.size := by omega
    have hz0 : w.heap.size < w1.heap.size := by omega
    clear hb
    obtain ⟨p0, p1, pf0, pf1⟩ := two_cells B4
    obtain ⟨q0, q1, qf0, qf1⟩ := two_cells B5
    have K8 := Aside0.mk B8
    clear B8 B4 B5
    go_wp2_with fail
    refine (affine_span_within.calls _ _ _ _ _ f1 t1 true _ HW.out).mono ?_
    rintro e w2 ⟨rfl, hb⟩
    have B8 := blk_below (g := w.heap.size + 1 + 1) (o := .cells #[.int .i64 0, .int .i64 0, .int .i64 0, .int .i64 0, .int .i64 0, .int .i64 0, .bool false] 70 (0, 0)) (by repeat (with_reducible first | exact K8.out | refine blk_alloc ?_ _)) hb
    have B10 := blk_below (g := w1.heap.size) (o := .cells #[.int .i64 X, .int .i64 DX, .int .i64 Y, .int .i64 DY] 23 (0, 0)) (by repeat (with_reducible first | exact blk_now (by simp) | refine blk_alloc ?_ _)) hb
    have B12 := blk_below (g := w1.heap.size + 1) (o := .cells #[.int .i64 X, .int .i64 DX, .int .i64 Y, .int .i64 DY, .int .i64 (-1099511627776), .int .i64 1099511627776, .bool false] 70 (0, 0)) (blk_now (by simp)) hb
    have HB2 := Aside0.mk hb
    have hy : w1.heap.size + 1 < w2.heap.size := by have := hb.size; simp at this; omega
    have hy0 : w1.heap.size < w2.heap.size := by omega
    have hy1 : w.heap.size + 1 + 1 < w2.heap.size := by omega
    clear hb HS HW p0 p1 q0 q1 pf0 pf1 qf0 qf1 hz1 hz0
    obtain ⟨s0, s1, s2, s3, sf0, sf1, sf2, sf3⟩ := four_cells B10
    obtain ⟨⟨o0, o1, o2, o3, o4, o5, o6⟩, e0, e1, e2, e3, e4, e5, e6⟩ := seven_cells B12
    clear K8
    have K8 := Aside0.mk B8
    have K12 := Aside0.mk B12
    clear B8 B10 B12
    have hne : ¬ w.heap.size + 1 + 1 = w1.heap.size + 1 := by omega
    go_wp2_with fail
    refine (affine_span_within.calls _ _ _ _ _ f2 t2 ok _ HV.out).mono ?_
    rintro e w3 ⟨rfl, hb⟩
    have L8 : ((w2.setCell ⟨w1.heap.size + 1, 4, none⟩ (.int .i64 f1)).setCell ⟨w1.heap.size + 1, 5, none⟩ (.int .i64 t1)).heap[w.heap.size + 1 + 1]? = some (.cells #[.int .i64 0, .int .i64 0, .int .i64 0, .int .i64 0, .int .i64 0, .int .i64 0, .bool false] 70 (0, 0)) := blk_far (blk_far K8.out (by simp; omega) _) (by simp; omega) _
    have L12 : ((w2.setCell ⟨w1.heap.size + 1, 4, none⟩ (.int .i64 f1)).setCell ⟨w1.heap.size + 1, 5, none⟩ (.int .i64 t1)).heap[w1.heap.size + 1]? = some (.cells #[.int .i64 X, .int .i64 DX, .int .i64 Y, .int .i64 DY, .int .i64 f1, .int .i64 t1, .bool false] 70 (0, 0)) := by
      have h0 := blk_put (cs' := #[.int .i64 X, .int .i64 DX, .int .i64 Y, .int .i64 DY, .int .i64 f1, .int .i64 1099511627776, .bool false]) K12.out 4 (.int .i64 f1) rfl
      exact blk_put h0 5 (.int .i64 t1) rfl
    have B8 := blk_below L8 hb
    have B12 := blk_below L12 hb
    have HB3 := Aside0.mk hb
    have hx : w1.heap.size + 1 < w3.heap.size := by have := hb.size; simp [World.setCell] at this; omega
    have hx1 : w.heap.size + 1 + 1 < w3.heap.size := by omega
    clear hb L8 L12 HV s0 s1 s2 s3 sf0 sf1 sf2 sf3 o0 o1 o2 o3 o4 o5 o6 e0 e1 e2 e3 e4 e5 e6 K8 K12
    obtain ⟨⟨c0, c1, c2, c3, c4, c5, c6⟩, g0, g1, g2, g3, g4, g5, g6⟩ := seven_cells B8
    obtain ⟨⟨o0, o1, o2, o3, o4, o5, o6⟩, e0, e1, e2, e3, e4, e5, e6⟩ := seven_cells B12
    have K8 := Aside0.mk B8
    clear B8 B12
    go_wp2_with fail
    refine bodyPost_ret (results_ct rfl _ _ (w.heap.size + 1 + 1) 70 #[.int .i64 X, .int .i64 DX, .int .i64 Y, .int .i64 DY, .int .i64 f2, .int .i64 t2, .bool false] (0, 0) _ rfl ?_ Try.underlying70 rfl (by kernel_rfl)) rfl ⟨rfl, ?_⟩
    · repeat (with_reducible first | refine blk_drewN ?_ _ | refine blk_drew ?_ | refine blk_alloc ?_ _ | refine set_seven (v0 := .int .i64 0) (v1 := .int .i64 0) (v2 := .int .i64 0) (v3 := .int .i64 0) (v4 := .int .i64 0) (v5 := .int .i64 0) (v6 := .bool false) ?_ _ _ _ _ _ _ _ | exact K8.out | refine blk_far ?_ ?_ _)
      all_goals (simp; omega)
    · repeat (with_reducible first | exact Below.refl _ _ | apply below_alloc | apply pw_below_drewN | apply below_drew1 | refine below_set ?_ ?_ | refine below_step ?_ HB3.out | refine below_step ?_ HB2.out | refine below_step ?_ HB.out)
      all_goals omega

theorem affine_meet.calls (k : Nat) (a0_0 a0_1 a1_0 a1_1 a2 a3 r1 r2 r3 r4 r5 r6 : Int) (r7 r8 : Bool) (w : World) (h : affine_meet.f k a0_0 a0_1 a1_0 a1_1 a2 a3 = some (r1, r2, r3, r4, r5, r6, r7, r8)) :
    Calls Try.prog 37 #[.agg #[.int .i64 a0_0, .int .i64 a0_1], .agg #[.int .i64 a1_0, .int .i64 a1_1], .int .i64 a2, .int .i64 a3] w fun e w' => e = .returned (.tuple #[.agg #[.int .i64 r1, .int .i64 r2, .int .i64 r3, .int .i64 r4, .int .i64 r5, .int .i64 r6, .bool r7], .bool r8]) ∧ Below w.heap.size w w' := by
  unfold affine_meet.f at h
  by_cases hn : a2 ≤ 0
  · rw [if_pos hn] at h
    simp only [Option.some.injEq, Prod.mk.injEq] at h
    obtain ⟨rfl, rfl, rfl, rfl, rfl, rfl, rfl, rfl⟩ := h
    exact meet_early _ _ _ _ _ _ w (.inl (by simpa using hn))
  rw [if_neg hn] at h
  by_cases hm : a3 ≤ 0
  · rw [if_pos hm] at h
    simp only [Option.some.injEq, Prod.mk.injEq] at h
    obtain ⟨rfl, rfl, rfl, rfl, rfl, rfl, rfl, rfl⟩ := h
    exact meet_early _ _ _ _ _ _ w (.inr ⟨by simpa using hn, by simpa using hm⟩)
  rw [if_neg hm] at h
  have hn' : decide (a2 ≤ 0) = false := by simpa using hn
  have hm' : decide (a3 ≤ 0) = false := by simpa using hm
  obtain ⟨⟨X, DX, Y, DY, ok⟩, hs, h⟩ := Option.bind_eq_some_iff.mp h
  dsimp only at h
  cases ok with
  | false =>
    rw [if_neg (by simp)] at h
    simp only [Option.some.injEq, Prod.mk.injEq] at h
    obtain ⟨rfl, rfl, rfl, rfl, rfl, rfl, rfl, rfl⟩ := h
    exact meet_none _ _ _ _ _ _ X DX Y DY w hn' hm' k hs
  | true =>
    rw [if_pos rfl] at h
    have two : ∀ al, (al = false) → ((affine_span_within.f (-1099511627776) 1099511627776 X DX a2).bind fun bt => if bt.2.2 = true then (affine_span_within.f bt.1 bt.2.1 Y DY a3).bind fun bt2 => some (X, DX, Y, DY, bt2.1, bt2.2.1, al, bt2.2.2) else some (0, 0, 0, 0, 0, 0, false, false)) = some (r1, r2, r3, r4, r5, r6, r7, r8) →
        ((a0_1 == 0) = false ∨ (a0_1 == 0) = true ∧ (a1_1 == 0) = false) →
        Calls Try.prog 37 #[.agg #[.int .i64 a0_0, .int .i64 a0_1], .agg #[.int .i64 a1_0, .int .i64 a1_1], .int .i64 a2, .int .i64 a3] w fun e w' => e = .returned (.tuple #[.agg #[.int .i64 r1, .int .i64 r2, .int .i64 r3, .int .i64 r4, .int .i64 r5, .int .i64 r6, .bool r7], .bool r8]) ∧ Below w.heap.size w w' := by
      intro al hal h hpq
      subst hal
      obtain ⟨⟨f1, t1, ok1⟩, h1, h⟩ := Option.bind_eq_some_iff.mp h
      dsimp only at h
      cases ok1 with
      | false =>
        rw [if_neg (by simp)] at h
        simp only [Option.some.injEq, Prod.mk.injEq] at h
        obtain ⟨rfl, rfl, rfl, rfl, rfl, rfl, rfl, rfl⟩ := h
        exact meet_out _ _ _ _ _ _ X DX Y DY f1 t1 w hn' hm' hpq k hs h1
      | true =>
        rw [if_pos rfl] at h
        obtain ⟨⟨f2, t2, ok2⟩, h2, h⟩ := Option.bind_eq_some_iff.mp h
        simp only [Option.some.injEq, Prod.mk.injEq] at h
        obtain ⟨rfl, rfl, rfl, rfl, rfl, rfl, rfl, rfl⟩ := h
        exact meet_in _ _ _ _ _ _ X DX Y DY f1 t1 f2 t2 ok2 w hn' hm' hpq k hs h1 h2
    by_cases hp : a0_1 = 0
    · rw [if_pos hp] at h
      by_cases hq : a1_1 = 0
      · rw [if_pos hq] at h
        simp only [Option.some.injEq, Prod.mk.injEq] at h
        obtain ⟨rfl, rfl, rfl, rfl, rfl, rfl, rfl, rfl⟩ := h
        have hb : (a1_1 == 0) = true := by simpa using hq
        rw [hb]
        exact meet_all _ _ _ _ _ _ X DX Y DY w hn' hm' (by simpa using hp) hb k hs
      · rw [if_neg hq] at h
        have hb : (a1_1 == 0) = false := by simpa using hq
        exact two _ hb h (.inr ⟨by simpa using hp, hb⟩)
    · rw [if_neg hp] at h
      exact two _ rfl h (.inl (by simpa using hp))
end Go.Proofs.Ytiedehjmhlgicaa.PAll
