/- The laws of two lines, as plain mathematics. -/
import Derived.Test.YtiedehjmhlgicaaM3
set_option maxHeartbeats 2000000
set_option linter.unusedVariables false
set_option linter.unusedSimpArgs false
namespace Go.Proofs.Ytiedehjmhlgicaa.PAll.Aff
open Go.RowKit Go.Proofs.YtiedehjmhlgicaaW.PrintWords Go.Proofs.YtiedehjmhlgicaaW.PrintLast Go.Proofs.YtiedehjmhlgicaaW.PrintMore
theorem Good.neg {pb ps qb qs n m : Int} (h : Good pb ps qb qs [n, m]) : Good pb ps qb qs [n, -n] := by
  simp [Good, inb] at h ⊢; omega
theorem Good.one {pb ps qb qs n m : Int} (h : Good pb ps qb qs [n, m]) : Good pb ps qb qs [n] := by
  simp [Good, inb] at h ⊢; omega
theorem Good.flip {pb ps qb qs n m : Int} : Good pb ps qb qs [n, m] ↔ Good qb qs pb ps [m, n] := by
  simp [Good, inb]; omega
theorem Good.nn {pb ps qb qs n m : Int} (h : Good pb ps qb qs [n, m]) : Good pb ps qb qs [n, n] := by
  simp [Good, inb] at h ⊢; omega
theorem Good.zero {pb ps qb qs n m : Int} (h : Good pb ps qb qs [n, m]) : Good pb ps qb qs [n, 0] := by
  simp [Good, inb] at h ⊢; omega
theorem MeetOf.iff {pb ps qb qs n m i j : Int} {ok : Bool} (h : MeetOf pb ps qb qs n m i j ok) : ok = true ↔ ∃ i j, Pair pb ps qb qs n m i j := by
  constructor
  · intro ho; exact ⟨_, _, (h.yes ho).1⟩
  · rintro ⟨i', j', hp⟩
    cases ho : ok
    · exact absurd hp ((h.no ho).2.2 _ _)
    · rfl
theorem pair_flip {pb ps qb qs n m : Int} : (∃ i j, Pair pb ps qb qs n m i j) ↔ ∃ i j, Pair qb qs pb ps m n i j :=
  ⟨fun ⟨i, j, h⟩ => ⟨j, i, Pair.swap.mp h⟩, fun ⟨i, j, h⟩ => ⟨j, i, Pair.swap.mp h⟩⟩
theorem AheadOf.size {pb ps qb qs n least d : Int} {ok : Bool} (h : AheadOf pb ps qb qs n least d ok) (hn : n.natAbs ≤ 2147483648) : d.natAbs ≤ 4294967296 := by
  cases ho : ok
  · rw [(h.no ho).1]; decide
  · obtain ⟨_, ⟨i, hp⟩, _⟩ := h.yes ho
    unfold Pair at hp
    omega
theorem Sides_pure (pb ps qb qs n m : Int) {k : Nat} (hk : 2147500000 < k) : biremelaw14_AffineSides.f k pb ps qb qs n m = some true := by
  unfold biremelaw14_AffineSides.f
  obtain ⟨q, rfl⟩ : ∃ q, k = q + 1 := ⟨k - 1, by omega⟩
  by_cases hg : Good pb ps qb qs [n, m]
  · have hg' := Good.flip.mp hg
    by_cases hnm : n < 0 ∨ m < 0
    · rw [Count_arg hg hnm (by omega), Count_arg hg' (by omega) (by omega), Meet_arg hg hnm (by omega), Meet_arg hg' (by omega) (by omega)]
      simp only [Option.bind_some, if_true, biremelaw14_AffineSides.j0]
      rw [if_neg (by decide), if_neg (by decide), alive_eval (by omega)]
      rfl
    · obtain ⟨hn, hm⟩ : 0 ≤ n ∧ 0 ≤ m := by omega
      obtain ⟨c, e1, s1⟩ := Count_eval hg hn hm
      obtain ⟨c', e2, s2⟩ := Count_eval hg' hm hn
      obtain ⟨i, j, ok, e3, s3⟩ := Meet_eval hg hn hm
      obtain ⟨i', j', ok', e4, s4⟩ := Meet_eval hg' hm hn
      obtain rfl := s1.swap.unique s2
      have hok : ok = ok' := Bool.eq_iff_iff.mpr (by rw [s3.iff, s4.iff]; exact pair_flip)
      subst hok
      obtain ⟨d, o, e5, s5⟩ := Ahead_eval hg.neg hn
      obtain ⟨d', o', e6, s6⟩ := Behind_eval (good_swap.mp hg.one) hn
      obtain ⟨rfl, rfl⟩ := s5.behind.unique s6
      have b5 := hg.two.2.2.2.2.1
      have hd := s5.size b5
      rw [e1 _ (by omega), e2 _ (by omega), e3 _ (by omega), e4 _ (by omega)]
      simp only [Option.bind_some, if_true, biremelaw14_AffineSides.j0]
      rw [if_neg (by simp), w64n (n := -n) (by omega), e5 _ (by omega), e6 _ (by omega)]
      simp only [Option.bind_some, if_true]
      rw [if_pos (by simp), w64n (n := -d) (by omega), if_pos rfl, alive_eval (by omega)]
      rfl
  · have hg' : ¬ Good qb qs pb ps [m, n] := fun h => hg (Good.flip.mpr h)
    rw [Count_limit hg (by omega), Count_limit hg' (by omega), Meet_limit hg (by omega), Meet_limit hg' (by omega)]
    simp only [Option.bind_some, if_true, biremelaw14_AffineSides.j0]
    rw [if_neg (by decide), if_neg (by decide), alive_eval (by omega)]
    rfl
theorem Pair.move {pb ps qb qs n m i j : Int} (b : Int) : Pair (pb + b) ps (qb + b) qs n m i j ↔ Pair pb ps qb qs n m i j := by
  unfold Pair; omega
theorem MeetOf.move {pb ps qb qs n m i j b : Int} {ok : Bool} (h : MeetOf (pb + b) ps (qb + b) qs n m i j ok) : MeetOf pb ps qb qs n m i j ok :=
  ⟨fun ho => ⟨(Pair.move b).mp (h.yes ho).1, fun i' j' hp => (h.yes ho).2 i' j' ((Pair.move b).mpr hp)⟩,
   fun ho => ⟨(h.no ho).1, (h.no ho).2.1, fun i' j' hp => (h.no ho).2.2 i' j' ((Pair.move b).mpr hp)⟩⟩
theorem CountOf.move {pb ps qb qs n m c b : Int} (h : CountOf (pb + b) ps (qb + b) qs n m c) : CountOf pb ps qb qs n m c := by
  obtain ⟨L, h1, h2, h3⟩ := h
  exact ⟨L, h1, fun i j => (h2 i j).trans (Pair.move b), h3⟩
theorem AheadOf.move {pb ps qb qs n l d b : Int} {ok : Bool} (h : AheadOf (pb + b) ps (qb + b) qs n l d ok) : AheadOf pb ps qb qs n l d ok :=
  ⟨fun ho => ⟨(h.yes ho).1, (h.yes ho).2.1.elim fun i hp => ⟨i, (Pair.move b).mp hp⟩, fun i' j' hp => (h.yes ho).2.2 i' j' ((Pair.move b).mpr hp)⟩,
   fun ho => ⟨(h.no ho).1, fun i' j' hp => (h.no ho).2 i' j' ((Pair.move b).mpr hp)⟩⟩
theorem BehindOf.move {pb ps qb qs n d b : Int} {ok : Bool} (h : BehindOf (pb + b) ps (qb + b) qs n d ok) : BehindOf pb ps qb qs n d ok :=
  ⟨fun ho => ⟨(h.yes ho).1.elim fun i hp => ⟨i, (Pair.move b).mp hp⟩, fun i' j' hp => (h.yes ho).2 i' j' ((Pair.move b).mpr hp)⟩,
   fun ho => ⟨(h.no ho).1, fun i' j' hp => (h.no ho).2 i' j' ((Pair.move b).mpr hp)⟩⟩
theorem Ahead_same {pb ps qb qs n l b : Int} (h1 : Good pb ps qb qs [n]) (h2 : Good (pb + b) ps (qb + b) qs [n]) (hn : 0 ≤ n) :
    ∃ d ok e, ∀ k, 2147483800 < k → affine_Ahead.f k pb ps qb qs n l = some (d, ok, e) ∧ affine_Ahead.f k (pb + b) ps (qb + b) qs n l = some (d, ok, e) := by
  by_cases hl : l.natAbs ≤ 2147483648
  · have g1 : Good pb ps qb qs [n, l] := by simp [Good, inb] at h1 ⊢; omega
    have g2 : Good (pb + b) ps (qb + b) qs [n, l] := by simp [Good, inb] at h2 ⊢; omega
    obtain ⟨d, ok, e1, s1⟩ := Ahead_eval g1 hn
    obtain ⟨d', ok', e2, s2⟩ := Ahead_eval g2 hn
    obtain ⟨rfl, rfl⟩ := s1.unique s2.move
    exact ⟨d, ok, 0, fun k hk => ⟨e1 k hk, e2 k hk⟩⟩
  · have g1 : ¬ Good pb ps qb qs [n, l] := fun h => hl h.two.2.2.2.2.2
    have g2 : ¬ Good (pb + b) ps (qb + b) qs [n, l] := fun h => hl h.two.2.2.2.2.2
    exact ⟨0, false, 3, fun k hk => ⟨Ahead_limit g1 hk, Ahead_limit g2 hk⟩⟩
theorem Moved_core (pb ps qb qs n m b l : Int) {k : Nat} (hk : 2147490000 < k) (x : Bool) (hx : x = false → b.natAbs ≤ 2147483648) : biremelaw14_AffineMoved.j0 k b l x pb ps qb qs n m = some true := by
  obtain ⟨k, rfl⟩ : ∃ q, k = q + 1 := ⟨k - 1, by omega⟩
  simp only [biremelaw14_AffineMoved.j0]
  cases x
  · replace hx := hx rfl
    rw [if_neg (by decide)]
    by_cases hg : Good pb ps qb qs [n, m]
    · by_cases hnm : n < 0 ∨ m < 0
      · rw [Meet_arg hg hnm (by omega)]
        simp only [Option.bind_some]
        rw [if_neg (by decide), alive_eval (by omega)]
        rfl
      · obtain ⟨hn, hm⟩ : 0 ≤ n ∧ 0 ≤ m := by omega
        obtain ⟨t1, _, t3, _⟩ := hg.two
        have v1 : wrap64 (pb + b) = pb + b := w64n (by omega)
        have v2 : wrap64 (qb + b) = qb + b := w64n (by omega)
        rw [v1, v2]
        obtain ⟨i, j, ok, e1, s1⟩ := Meet_eval hg hn hm
        rw [e1 _ (by omega)]
        simp only [Option.bind_some, if_true]
        by_cases hg' : Good (pb + b) ps (qb + b) qs [n, m]
        · obtain ⟨i', j', ok', e2, s2⟩ := Meet_eval hg' hn hm
          obtain ⟨rfl, rfl, rfl⟩ := s1.unique s2.move
          obtain ⟨c, e3, s3⟩ := Count_eval hg hn hm
          obtain ⟨c', e4, s4⟩ := Count_eval hg' hn hm
          obtain rfl := s3.unique s4.move
          obtain ⟨d, o, e, e5⟩ := Ahead_same (l := l) hg.one hg'.one hn
          obtain ⟨y, p, e6, s6⟩ := Behind_eval hg.one hn
          obtain ⟨y', p', e7, s7⟩ := Behind_eval hg'.one hn
          obtain ⟨rfl, rfl⟩ := s6.unique s7.move
          rw [e2 _ (by omega), e3 _ (by omega), e4 _ (by omega), (e5 _ (by omega)).1, (e5 _ (by omega)).2, e6 _ (by omega), e7 _ (by omega)]
          simp only [Option.bind_some, if_true, beq_self_eq_true]
          rw [alive_eval (by omega)]
          rfl
        · rw [Meet_limit hg' (by omega)]
          simp only [Option.bind_some, if_true]
          rw [if_neg (by decide), alive_eval (by omega)]
          rfl
    · rw [Meet_limit hg (by omega)]
      simp only [Option.bind_some]
      rw [if_neg (by decide), alive_eval (by omega)]
      rfl
  · rw [if_pos rfl, alive_eval (by omega)]; rfl
theorem Moved_pure (pb ps qb qs n m b l : Int) {k : Nat} (hk : 2147500000 < k) : biremelaw14_AffineMoved.f k pb ps qb qs n m b l = some true := by
  unfold biremelaw14_AffineMoved.f
  by_cases h : b < -2147483648
  · rw [if_pos h]; exact Moved_core _ _ _ _ _ _ _ _ (by omega) _ (fun h => by cases h)
  · rw [if_neg h]; exact Moved_core _ _ _ _ _ _ _ _ (by omega) _ (fun h => by simp at h; omega)
theorem Counts_core {pb ps qb qs n m i j d1 d2 d3 : Int} {o1 o2 o3 ok : Bool} (hg : Good pb ps qb qs [n, n]) (hn : 0 ≤ n)
    (hM : MeetOf pb ps qb qs n n i j ok) (h1 : AheadOf pb ps qb qs n 0 d1 o1) (h2 : AheadOf qb qs pb ps n 0 d2 o2) (h3 : BehindOf pb ps qb qs n d3 o3) {k : Nat} (hk : 2147483900 < k) :
    biremelaw14_AffineCounts.j1 k i j ok d1 o1 d2 o2 d3 false pb ps qb qs n m = some true := by
  obtain ⟨k, rfl⟩ : ∃ q, k = q + 1 := ⟨k - 1, by omega⟩
  simp only [biremelaw14_AffineCounts.j1]
  rw [if_neg (by decide), alive_eval (by omega)]
  simp only [Option.bind_some]
  have p3 : ok = true → ∀ i j, Pair pb ps qb qs n n i j → j - i ≤ d3 := by
    intro _ i j hp
    cases ho : o3
    · exact absurd hp ((h3.no ho).2 _ _)
    · exact (h3.yes ho).2 _ _ hp
  have q1 : o1 = true → d1 ≥ 0 ∧ d1 ≤ d3 ∧ d1 < n := by
    intro ho
    obtain ⟨a, ⟨i', hp⟩, _⟩ := h1.yes ho
    have := p3 (hM.iff.mpr ⟨_, _, hp⟩) _ _ hp
    unfold Pair at hp
    omega
  have q2 : o2 = true → d2 ≥ 0 ∧ d2 < n ∧ wrap64 (-d2) ≤ d3 := by
    intro ho
    obtain ⟨a, ⟨i', hp⟩, _⟩ := h2.yes ho
    have := p3 (hM.iff.mpr ⟨_, _, Pair.swap.mp hp⟩) _ _ (Pair.swap.mp hp)
    rw [w64n (n := -d2) (by have := h2.size hg.two.2.2.2.2.1; omega)]
    unfold Pair at hp
    omega
  have rest : (if o1 = true then (if d1 ≥ 0 then (if d1 ≤ d3 then (if d1 < n then (if o2 = true then (if d2 ≥ 0 then (if d2 < n then (if (wrap64 (-d2)) ≤ d3 then some true else (some false)) else (some false)) else (some false)) else some true) else (some false)) else (some false)) else (some false)) else (if o2 = true then (if d2 ≥ 0 then (if d2 < n then (if (wrap64 (-d2)) ≤ d3 then some true else (some false)) else (some false)) else (some false)) else some true)) = some true := by
    have r2 : (if o2 = true then (if d2 ≥ 0 then (if d2 < n then (if (wrap64 (-d2)) ≤ d3 then some true else (some false)) else (some false)) else (some false)) else some true) = some true := by
      by_cases ho : o2 = true
      · obtain ⟨a, b, c⟩ := q2 ho
        rw [if_pos ho, if_pos a, if_pos b, if_pos c]
      · rw [if_neg ho]
    rw [r2]
    by_cases ho : o1 = true
    · obtain ⟨a, b, c⟩ := q1 ho
      rw [if_pos ho, if_pos a, if_pos b, if_pos c]
    · rw [if_neg ho]
  by_cases ho : ok = true
  · rw [if_pos ho]
    obtain ⟨t1, t2, t3, t4, t5, _⟩ := hg.two
    have hp := (hM.yes ho).1
    unfold Pair at hp
    obtain ⟨p0, p1, p2, p3', p4⟩ := hp
    have b1 : i.natAbs ≤ 2147483648 := by clear t1 t2 t3 t4; omega
    have b2 : j.natAbs ≤ 2147483648 := by clear t1 t2 t3 t4; omega
    have m1 := mul_abs t2 b1
    have m2 := mul_abs t4 b2
    unfold biremelaw14_at.f
    rw [mul_small t2 b1 (by decide), mul_small t4 b2 (by decide), add_small t1 m1 (by decide), add_small t3 m2 (by decide)]
    simp only [Option.bind_some]
    rw [if_pos p4, if_neg (by omega), if_neg (by omega), if_neg (by omega), if_neg (by omega)]
    exact rest
  · rw [if_neg ho]
    exact rest
theorem Counts_pure (pb ps qb qs n m : Int) {k : Nat} (hk : 2147500000 < k) : biremelaw14_AffineCounts.f k pb ps qb qs n m = some true := by
  unfold biremelaw14_AffineCounts.f
  obtain ⟨k, rfl⟩ : ∃ q, k = q + 1 := ⟨k - 1, by omega⟩
  by_cases hg : Good pb ps qb qs [n, n]
  · by_cases hn : n < 0
    · rw [Count_arg hg (.inl hn) (by omega), Meet_arg hg (.inl hn) (by omega)]
      simp only [Option.bind_some]
      rw [if_neg (by decide)]
      simp only [biremelaw14_AffineCounts.j0, if_true]
      rw [alive_eval (by omega)]
      rfl
    · replace hn : 0 ≤ n := by omega
      obtain ⟨c, e1, s1⟩ := Count_eval hg hn hn
      obtain ⟨i, j, ok, e2, s2⟩ := Meet_eval hg hn hn
      obtain ⟨d1, o1, e3, s3⟩ := Ahead_eval hg.zero hn
      obtain ⟨d2, o2, e4, s4⟩ := Ahead_eval (Good.zero (good_swap.mp hg)) hn
      obtain ⟨d3, o3, e5, s5⟩ := Behind_eval hg.one hn
      rw [e1 _ (by omega), e2 _ (by omega)]
      simp only [Option.bind_some, if_true, biremelaw14_AffineCounts.j0]
      rw [if_neg (by decide), e3 _ (by omega), e4 _ (by omega), e5 _ (by omega)]
      simp only [Option.bind_some, if_true]
      have w1 : (c != 0) = ok := by
        have h1 := s1.zero
        have h2 := s2.iff
        cases ho : ok
        · have : c = 0 := h1.mpr fun i j hp => by rw [ho] at h2; exact absurd (h2.mpr ⟨i, j, hp⟩) (by decide)
          rw [this]; rfl
        · obtain ⟨i', j', hp⟩ := h2.mp ho
          have : c ≠ 0 := fun h => h1.mp h _ _ hp
          simpa using this
      have w2 : o3 = ok := by
        refine Bool.eq_iff_iff.mpr (Iff.trans ?_ s2.iff.symm)
        constructor
        · intro ho; obtain ⟨⟨i', hp⟩, _⟩ := s5.yes ho; exact ⟨_, _, hp⟩
        · rintro ⟨i', j', hp⟩
          cases ho : o3
          · exact absurd hp ((s5.no ho).2 _ _)
          · rfl
      have w3 : o1 = true → ok = true := fun ho => by
        obtain ⟨_, ⟨i', hp⟩, _⟩ := s3.yes ho; exact s2.iff.mpr ⟨_, _, hp⟩
      have w4 : o1 = false → ok = o2 := fun ho => by
        refine Bool.eq_iff_iff.mpr (Iff.trans s2.iff ?_)
        constructor
        · rintro ⟨i', j', hp⟩
          have a := (s3.no ho).2 _ _ hp
          cases ho2 : o2
          · have b := (s4.no ho2).2 _ _ (Pair.swap.mp hp)
            omega
          · rfl
        · intro ho2; obtain ⟨_, ⟨i', hp⟩, _⟩ := s4.yes ho2; exact ⟨_, _, Pair.swap.mp hp⟩
      have w5 : decide (c < 0) = false := by have := s1.nonneg; simpa using this
      have fin := Counts_core (m := m) hg hn s2 s3 s4 s5 (k := k) (by omega)
      rw [if_neg (by rw [w1]; simp), w2, w5, if_neg (c := (ok != ok) = true) (by simp)]
      by_cases ho : o1 = true
      · rw [if_pos ho, if_neg (by rw [w3 ho]; decide)]; exact fin
      · rw [if_neg ho, if_neg (by rw [w4 (by simpa using ho)]; simp)]; exact fin
  · rw [Count_limit hg (by omega), Meet_limit hg (by omega)]
    simp only [Option.bind_some]
    rw [if_neg (by decide)]
    simp only [biremelaw14_AffineCounts.j0, if_true]
    rw [alive_eval (by omega)]
    rfl

end Go.Proofs.Ytiedehjmhlgicaa.PAll.Aff
