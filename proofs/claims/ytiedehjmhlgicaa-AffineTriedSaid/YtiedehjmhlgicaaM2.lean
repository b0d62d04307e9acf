/- The plain mathematics of two lines, second part: what Meet, Ahead, Behind, Count and the reference compute. -/
import Derived.Test.YtiedehjmhlgicaaM1
set_option maxHeartbeats 2000000
set_option linter.unusedVariables false
set_option linter.unusedSimpArgs false
namespace Go.Proofs.Ytiedehjmhlgicaa.PAll.Aff
open Go.RowKit Go.Proofs.YtiedehjmhlgicaaW.PrintWords Go.Proofs.YtiedehjmhlgicaaW.PrintLast Go.Proofs.YtiedehjmhlgicaaW.PrintMore
def inb (x : Int) : Bool := decide (x.natAbs ≤ 2147483648)
theorem inb_true {x : Int} : inb x = true ↔ x.natAbs ≤ 2147483648 := by simp [inb]
theorem inb_false {x : Int} : inb x = false ↔ ¬ x.natAbs ≤ 2147483648 := by simp [inb]

theorem small_loop (l : List Int) (hl : l.length ≤ 1000) (d : Nat) : ∀ (k : Nat) (i : Nat), i + d = l.length → d < k →
    affine_small.l0 k l (l.length : Int) (i : Int) = some ((l.drop i).all inb) := by
  induction d with
  | zero =>
    intro k i hd hk
    obtain ⟨k, rfl⟩ : ∃ m, k = m + 1 := ⟨k - 1, by omega⟩
    simp only [affine_small.l0]
    rw [if_neg (by omega), List.drop_of_length_le (by omega)]
    rfl
  | succ d ih =>
    intro k i hd hk
    obtain ⟨k, rfl⟩ : ∃ m, k = m + 1 := ⟨k - 1, by omega⟩
    have hi : i < l.length := by omega
    have hr : rd l (i : Int) = l[i] := by simp [rd, hi]
    have hdr : l.drop i = l[i] :: l.drop (i + 1) := List.drop_eq_getElem_cons hi
    simp only [affine_small.l0]
    rw [if_pos (by omega), if_pos (by omega), if_pos (by omega), hr, hdr, List.all_cons]
    by_cases h1 : l[i] < -2147483648
    · rw [if_pos h1]
      have : inb l[i] = false := inb_false.mpr (by omega)
      rw [this]; rfl
    · rw [if_neg h1]
      by_cases h2 : l[i] > 2147483648
      · rw [if_pos h2]
        have : inb l[i] = false := inb_false.mpr (by omega)
        rw [this]; rfl
      · rw [if_neg h2]
        have : inb l[i] = true := inb_true.mpr (by omega)
        rw [this, w64 (by omega), Bool.true_and]
        exact ih k (i + 1) (by omega) (by omega)
theorem small_eval {l : List Int} (hl : l.length ≤ 1000) {k : Nat} (hk : 1001 < k) : affine_small.f k l = some (l.all inb) := by
  have := small_loop l hl l.length k 0 (by omega) (by omega)
  simpa [affine_small.f] using this
theorem Within_loop (l : List Int) (hl : l.length ≤ 1000) (d : Nat) : ∀ (k : Nat) (i : Nat), i + d = l.length → d < k →
    biremeref14_Within.l0 k l (i : Int) = some ((l.drop i).all inb) := by
  induction d with
  | zero =>
    intro k i hd hk
    obtain ⟨k, rfl⟩ : ∃ m, k = m + 1 := ⟨k - 1, by omega⟩
    simp only [biremeref14_Within.l0]
    rw [if_neg (by omega), List.drop_of_length_le (by omega)]
    rfl
  | succ d ih =>
    intro k i hd hk
    obtain ⟨k, rfl⟩ : ∃ m, k = m + 1 := ⟨k - 1, by omega⟩
    have hi : i < l.length := by omega
    have hr : rd l (i : Int) = l[i] := by simp [rd, hi]
    have hdr : l.drop i = l[i] :: l.drop (i + 1) := List.drop_eq_getElem_cons hi
    simp only [biremeref14_Within.l0]
    rw [if_pos (by omega), if_pos (by omega), hr, hdr, List.all_cons]
    by_cases h1 : l[i] < -2147483648
    · rw [if_pos h1]
      have : inb l[i] = false := inb_false.mpr (by omega)
      rw [this]; rfl
    · rw [if_neg h1]
      by_cases h2 : l[i] > 2147483648
      · rw [if_pos h2]
        have : inb l[i] = false := inb_false.mpr (by omega)
        rw [this]; rfl
      · rw [if_neg h2]
        have : inb l[i] = true := inb_true.mpr (by omega)
        rw [this, w64 (by omega), Bool.true_and]
        exact ih k (i + 1) (by omega) (by omega)
theorem Within_eval {l : List Int} (hl : l.length ≤ 1000) {k : Nat} (hk : 1001 < k) : biremeref14_Within.f k l = some (l.all inb) := by
  have := Within_loop l hl l.length k 0 (by omega) (by omega)
  simpa [biremeref14_Within.f] using this

theorem lines_eval {pb ps qb qs : Int} {l : List Int} (hl : l.length ≤ 1000) {k : Nat} (hk : 1001 < k) :
    affine_lines.f k pb ps qb qs l = some (if ([pb, ps, qb, qs].all inb && l.all inb) = true then 0 else 3) := by
  unfold affine_lines.f
  rw [small_eval (by simp) hk]
  simp only [Option.bind_some]
  cases h1 : [pb, ps, qb, qs].all inb
  · rfl
  · rw [if_pos rfl, small_eval hl hk]
    simp only [Option.bind_some]
    cases h2 : l.all inb <;> rfl

/-- The arguments are within the limits. -/
def Good (pb ps qb qs : Int) (l : List Int) : Prop := ([pb, ps, qb, qs].all inb && l.all inb) = true
instance (pb ps qb qs : Int) (l : List Int) : Decidable (Good pb ps qb qs l) := by unfold Good; infer_instance
theorem Good.two {pb ps qb qs n m : Int} (h : Good pb ps qb qs [n, m]) : pb.natAbs ≤ 2147483648 ∧ ps.natAbs ≤ 2147483648 ∧ qb.natAbs ≤ 2147483648 ∧ qs.natAbs ≤ 2147483648 ∧ n.natAbs ≤ 2147483648 ∧ m.natAbs ≤ 2147483648 := by
  simpa [Good, inb, and_assoc] using h

/-- What Meet returns. -/
structure MeetOf (pb ps qb qs n m i j : Int) (ok : Bool) : Prop where
  yes : ok = true → Pair pb ps qb qs n m i j ∧ ∀ i' j', Pair pb ps qb qs n m i' j' → i < i' ∨ i = i' ∧ j ≤ j'
  no : ok = false → i = 0 ∧ j = 0 ∧ ∀ i' j', ¬ Pair pb ps qb qs n m i' j'
theorem MeetOf.unique {pb ps qb qs n m i j i' j' : Int} {ok ok' : Bool} (h : MeetOf pb ps qb qs n m i j ok) (h' : MeetOf pb ps qb qs n m i' j' ok') : i = i' ∧ j = j' ∧ ok = ok' := by
  cases ho : ok <;> cases ho' : ok'
  · have := h.no ho; have := h'.no ho'; refine ⟨by omega, by omega, rfl⟩
  · exact absurd (h'.yes ho').1 ((h.no ho).2.2 _ _)
  · exact absurd (h.yes ho).1 ((h'.no ho').2.2 _ _)
  · have a := h.yes ho; have b := h'.yes ho'
    have c := a.2 _ _ b.1; have d := b.2 _ _ a.1
    refine ⟨by omega, by omega, rfl⟩

theorem least_eval {f t base step : Int} (hf : f.natAbs ≤ 2199023255552) (ht : t.natAbs ≤ 2199023255552) (hs : step.natAbs ≤ 1) (hb : base.natAbs ≤ 68719476736) :
    affine_span_least.f f t base step = some (mn (base + step * f) (base + step * t)) := by
  unfold affine_span_least.f
  have h1 := mul_abs (a := step) (b := f) hs hf
  have h2 := mul_abs (a := step) (b := t) hs ht
  rw [w64 (n := step * f) (by omega), w64 (n := step * t) (by omega), w64 (n := base + step * f) (by omega), w64 (n := base + step * t) (by omega)]

theorem Meet_eval {pb ps qb qs n m : Int} (hg : Good pb ps qb qs [n, m]) (hn : 0 ≤ n) (hm : 0 ≤ m) :
    ∃ i j ok, (∀ k, 2147483800 < k → affine_Meet.f k pb ps qb qs n m = some (i, j, ok, 0)) ∧ MeetOf pb ps qb qs n m i j ok := by
  obtain ⟨b1, b2, b3, b4, b5, b6⟩ := hg.two
  obtain ⟨X, DX, Y, DY, f, t, full, ok, he, hz, z1, z2, z3, z4⟩ := meet_eval b1 b2 b3 b4 b5 b6
  have run : ∀ k, 2147483800 < k → affine_Meet.f k pb ps qb qs n m = affine_Meet.j2 (k - 2) ok (if ok = true then full else true) X DX Y DY f t full := by
    intro k hk
    unfold affine_Meet.f
    rw [lines_eval (by simp) (by omega)]
    simp only [Option.bind_some]
    have : Good pb ps qb qs [n, m] := hg
    unfold Good at this
    rw [this, if_pos rfl, if_pos rfl, if_neg (by omega)]
    obtain ⟨k, rfl⟩ : ∃ q, k = q + 3 := ⟨k - 3, by omega⟩
    simp only [affine_Meet.j0, affine_Meet.j1]
    rw [if_neg (by simp; omega), if_pos trivial, he _ (by omega)]
    simp only [Option.bind_some]
    rw [show k + 3 - 2 = k + 1 from by omega]
    cases ok <;> rfl
  cases ho : ok with
  | false =>
    subst ho
    refine ⟨0, 0, false, fun k hk => ?_, ⟨fun h => (by cases h), fun _ => ⟨rfl, rfl, hz.no rfl⟩⟩⟩
    rw [run k hk]
    obtain ⟨k, rfl⟩ : ∃ q, k = q + 3 := ⟨k - 3, by omega⟩
    rw [show k + 3 - 2 = k + 1 from by omega]
    simp only [affine_Meet.j2]
    rfl
  | true =>
    subst ho
    cases hw : full with
    | true =>
      subst hw
      have h1 := hz.every rfl rfl
      refine ⟨0, 0, true, fun k hk => ?_, ⟨fun _ => ⟨⟨by omega, by omega, by omega, by omega, by rw [h1.1, h1.2.1]; omega⟩, fun i' j' hp => by unfold Pair at hp; omega⟩, fun h => (by cases h)⟩⟩
      rw [run k hk]
      obtain ⟨k, rfl⟩ : ∃ q, k = q + 3 := ⟨k - 3, by omega⟩
      rw [show k + 3 - 2 = k + 1 from by omega]
      simp only [affine_Meet.j2]
      rfl
    | false =>
      subst hw
      obtain ⟨hft, hk, hs, hz'⟩ := hz.some rfl rfl
      have pairs : ∀ i j, Pair pb ps qb qs n m i j → ∃ k, i = X + DX * k ∧ j = Y + DY * k ∧ f ≤ k ∧ k ≤ t := by
        intro i j h
        unfold Pair at h
        obtain ⟨k, hi, hj⟩ := hs.all hz' rfl (i := i) (j := j) (by rw [Int.neg_mul]; omega)
        have := (hk k).mpr (by omega)
        exact ⟨k, hi, hj, this.1, this.2⟩
      have mem : ∀ k, f ≤ k → k ≤ t → Pair pb ps qb qs n m (X + DX * k) (Y + DY * k) := by
        intro k k1 k2
        have h1 := (hk k).mp ⟨k1, k2⟩
        have h2 := hs.each hz' rfl k
        rw [Int.neg_mul] at h2
        exact ⟨h1.1, h1.2.1, h1.2.2.1, h1.2.2.2, by omega⟩
      by_cases hd : DX = 0
      · have hq : -qs = 0 := by
          apply Classical.byContradiction
          intro hq
          have := hs.least hq rfl
          omega
        have hl := hs.line hq (by omega) rfl
        refine ⟨X, f, true, fun k hk' => ?_, ⟨fun _ => ⟨?_, fun i' j' hp => ?_⟩, fun h => (by cases h)⟩⟩
        · rw [run k hk']
          obtain ⟨k, rfl⟩ : ∃ q, k = q + 3 := ⟨k - 3, by omega⟩
          rw [show k + 3 - 2 = k + 1 from by omega]
          simp only [affine_Meet.j2]
          rw [if_neg (by simp), if_pos hd, least_eval hz.size.1 hz.size.2 (by omega) (by omega)]
          simp only [Option.bind_some]
          rw [hl.2.1, hl.2.2.1]
          congr 3
          unfold mn
          split <;> omega
        · have := mem f (by omega) hft
          rw [hd, hl.2.1, hl.2.2.1] at this
          have e : X + 0 * f = X := by omega
          have e2 : 0 + 1 * f = f := by omega
          rwa [e, e2] at this
        · obtain ⟨k', hi, hj, k1, k2⟩ := pairs i' j' hp
          rw [hd] at hi
          rw [hl.2.1, hl.2.2.1] at hj
          omega
      · have hq : -qs ≠ 0 := by
          intro hq
          have := hs.line hq (by omega) rfl
          omega
        have hl := hs.least hq rfl
        have hdp : 0 < DX := by omega
        have hpf := mem f (by omega) hft
        refine ⟨X + DX * f, Y + DY * f, true, fun k hk' => ?_, ⟨fun _ => ⟨hpf, fun i' j' hp => ?_⟩, fun h => (by cases h)⟩⟩
        · rw [run k hk']
          obtain ⟨k, rfl⟩ : ∃ q, k = q + 3 := ⟨k - 3, by omega⟩
          rw [show k + 3 - 2 = k + 1 from by omega]
          simp only [affine_Meet.j2]
          unfold Pair at hpf
          rw [if_neg (by simp), if_neg hd, w64 (n := DX * f) (by omega), w64 (n := DY * f) (by omega), w64 (n := X + DX * f) (by omega), w64 (n := Y + DY * f) (by omega)]
        · obtain ⟨k', hi, hj, k1, k2⟩ := pairs i' j' hp
          by_cases hkk : k' = f
          · subst hkk; omega
          · left
            have : DX * (f + 1) ≤ DX * k' := Int.mul_le_mul_of_nonneg_left (by omega) (by omega)
            rw [Int.mul_add] at this
            omega
theorem Meet_limit {pb ps qb qs n m : Int} (hg : ¬ Good pb ps qb qs [n, m]) {k : Nat} (hk : 2147483800 < k) : affine_Meet.f k pb ps qb qs n m = some (0, 0, false, 3) := by
  unfold affine_Meet.f
  rw [lines_eval (by simp) (by omega)]
  simp only [Option.bind_some]
  unfold Good at hg
  rw [if_neg hg, if_neg (by omega)]
  obtain ⟨k, rfl⟩ : ∃ q, k = q + 3 := ⟨k - 3, by omega⟩
  simp only [affine_Meet.j0, affine_Meet.j1]
  rfl
theorem Meet_arg {pb ps qb qs n m : Int} (hg : Good pb ps qb qs [n, m]) (hn : n < 0 ∨ m < 0) {k : Nat} (hk : 2147483800 < k) : affine_Meet.f k pb ps qb qs n m = some (0, 0, false, 2) := by
  unfold affine_Meet.f
  rw [lines_eval (by simp) (by omega)]
  simp only [Option.bind_some]
  unfold Good at hg
  rw [hg, if_pos rfl, if_pos rfl]
  obtain ⟨k, rfl⟩ : ∃ q, k = q + 3 := ⟨k - 3, by omega⟩
  by_cases h : n < 0
  · rw [if_pos h]
    simp only [affine_Meet.j0, affine_Meet.j1]
    rfl
  · rw [if_neg h]
    have : decide (m < 0) = true := by simp; omega
    rw [this]
    simp only [affine_Meet.j0, affine_Meet.j1]
    rfl

theorem least_eval2 {f t base step : Int} (h1 : (step * f).natAbs ≤ 1000000000000000000) (h2 : (step * t).natAbs ≤ 1000000000000000000) (hb : base.natAbs ≤ 1000000000000000000) :
    affine_span_least.f f t base step = some (mn (base + step * f) (base + step * t)) := by
  unfold affine_span_least.f
  rw [w64 (n := step * f) (by omega), w64 (n := step * t) (by omega), w64 (n := base + step * f) (by omega), w64 (n := base + step * t) (by omega)]

/-- What Ahead returns. -/
structure AheadOf (pb ps qb qs n least d : Int) (ok : Bool) : Prop where
  yes : ok = true → least ≤ d ∧ (∃ i, Pair pb ps qb qs n n i (i + d)) ∧ ∀ i j, Pair pb ps qb qs n n i j → least ≤ j - i → d ≤ j - i
  no : ok = false → d = 0 ∧ ∀ i j, Pair pb ps qb qs n n i j → ¬ least ≤ j - i
theorem AheadOf.unique {pb ps qb qs n least d d' : Int} {ok ok' : Bool} (h : AheadOf pb ps qb qs n least d ok) (h' : AheadOf pb ps qb qs n least d' ok') : d = d' ∧ ok = ok' := by
  cases ho : ok <;> cases ho' : ok'
  · have := h.no ho; have := h'.no ho'; exact ⟨by omega, rfl⟩
  · obtain ⟨a, ⟨i, hp⟩, _⟩ := h'.yes ho'
    exact absurd (by omega) ((h.no ho).2 _ _ hp)
  · obtain ⟨a, ⟨i, hp⟩, _⟩ := h.yes ho
    exact absurd (by omega) ((h'.no ho').2 _ _ hp)
  · obtain ⟨a, ⟨i, hp⟩, b⟩ := h.yes ho
    obtain ⟨a', ⟨i', hp'⟩, b'⟩ := h'.yes ho'
    have c := b _ _ hp' (by omega); have d := b' _ _ hp (by omega)
    exact ⟨by omega, rfl⟩

theorem Ahead_limit {pb ps qb qs n least : Int} (hg : ¬ Good pb ps qb qs [n, least]) {k : Nat} (hk : 2147483800 < k) : affine_Ahead.f k pb ps qb qs n least = some (0, false, 3) := by
  unfold affine_Ahead.f
  rw [lines_eval (by simp) (by omega)]
  simp only [Option.bind_some]
  unfold Good at hg
  rw [if_neg hg, if_neg (by omega)]
  obtain ⟨k, rfl⟩ : ∃ q, k = q + 3 := ⟨k - 3, by omega⟩
  simp only [affine_Ahead.j0, affine_Ahead.j1]
  rfl
theorem Ahead_arg {pb ps qb qs n least : Int} (hg : Good pb ps qb qs [n, least]) (hn : n < 0) {k : Nat} (hk : 2147483800 < k) : affine_Ahead.f k pb ps qb qs n least = some (0, false, 2) := by
  unfold affine_Ahead.f
  rw [lines_eval (by simp) (by omega)]
  simp only [Option.bind_some]
  unfold Good at hg
  rw [hg, if_pos rfl, if_pos rfl]
  obtain ⟨k, rfl⟩ : ∃ q, k = q + 3 := ⟨k - 3, by omega⟩
  have : decide (n < 0) = true := by simp; omega
  rw [this]
  simp only [affine_Ahead.j0, affine_Ahead.j1]
  rfl
theorem keep_eval (n : Int) (ok : Bool) : affine_keep.f n ok = some (if ok = true then (n, true, 0) else (0, false, 0)) := by
  unfold affine_keep.f; cases ok <;> rfl

theorem Ahead_eval {pb ps qb qs n least : Int} (hg : Good pb ps qb qs [n, least]) (hn : 0 ≤ n) :
    ∃ d ok, (∀ k, 2147483800 < k → affine_Ahead.f k pb ps qb qs n least = some (d, ok, 0)) ∧ AheadOf pb ps qb qs n least d ok := by
  obtain ⟨b1, b2, b3, b4, b5, b6⟩ := hg.two
  obtain ⟨X, DX, Y, DY, f, t, full, ok, he, hz, z1, z2, z3, z4⟩ := meet_eval b1 b2 b3 b4 b5 b5
  have run : ∀ k, 2147483800 < k → affine_Ahead.f k pb ps qb qs n least = affine_Ahead.j1 (k - 1) n least 0 pb ps qb qs := by
    intro k hk
    unfold affine_Ahead.f
    rw [lines_eval (by simp) (by omega)]
    simp only [Option.bind_some]
    have : Good pb ps qb qs [n, least] := hg
    unfold Good at this
    rw [this, if_pos rfl, if_pos rfl]
    obtain ⟨k, rfl⟩ : ∃ q, k = q + 1 := ⟨k - 1, by omega⟩
    simp only [affine_Ahead.j0]
    rw [if_neg (by simp; omega)]
    rfl
  -- j1 at its own rounds
  have run1 : ∀ k, 2147483700 < k → affine_Ahead.j1 (k + 1) n least 0 pb ps qb qs = if ok = true then (if full = true then ((affine_keep.f (mx least (wrap64 (-(wrap64 (n - 1))))) (decide ((mx least (wrap64 (-(wrap64 (n - 1))))) < n))).bind fun bt196 => (some (bt196.1, bt196.2.1, bt196.2.2))) else (if (wrap64 (DY - DX)) = 0 then ((affine_keep.f (wrap64 (Y - X)) (decide ((wrap64 (Y - X)) ≥ least))).bind fun bt199 => (some (bt199.1, bt199.2.1, bt199.2.2))) else (if (wrap64 (DY - DX)) > 0 then ((affine_ceil.f (wrap64 (least - (wrap64 (Y - X)))) (wrap64 (DY - DX))).bind fun t202 => (if (mx f t202) > t then (some (0, false, 0)) else ((affine_span_least.f (mx f t202) t (wrap64 (Y - X)) (wrap64 (DY - DX))).bind fun t203 => (some (t203, true, 0))))) else ((affine_floor.f (wrap64 (least - (wrap64 (Y - X)))) (wrap64 (DY - DX))).bind fun t204 => (if f > (mn t t204) then (some (0, false, 0)) else ((affine_span_least.f f (mn t t204) (wrap64 (Y - X)) (wrap64 (DY - DX))).bind fun t205 => (some (t205, true, 0)))))))) else some (0, false, 0) := by
    intro k hk
    simp only [affine_Ahead.j1]
    rw [if_pos trivial, he k hk]
    rfl
  have fin : ∀ d ok', (∀ k, 2147483700 < k → affine_Ahead.j1 (k + 1) n least 0 pb ps qb qs = some (d, ok', 0)) → ∀ k, 2147483800 < k → affine_Ahead.f k pb ps qb qs n least = some (d, ok', 0) := by
    intro d ok' h k hk
    rw [run k hk]
    obtain ⟨k, rfl⟩ : ∃ q, k = q + 2 := ⟨k - 2, by omega⟩
    exact h k (by omega)
  clear run
  cases ho : ok with
  | false =>
    subst ho
    refine ⟨0, false, fin _ _ fun k hk => by rw [run1 k hk]; rfl, ⟨fun h => (by cases h), fun _ => ⟨rfl, fun i j hp => absurd hp (hz.no rfl i j)⟩⟩⟩
  | true =>
    subst ho
    cases hw : full with
    | true =>
      subst hw
      have h1 := hz.every rfl rfl
      have hP : ∀ i j, 0 ≤ i → i < n → 0 ≤ j → j < n → Pair pb ps qb qs n n i j := by
        intro i j a1 a2 a3 a4
        exact ⟨a1, a2, a3, a4, by rw [h1.1, h1.2.1]; omega⟩
      refine ⟨if decide (mx least (-(n - 1)) < n) = true then mx least (-(n - 1)) else 0, decide (mx least (-(n - 1)) < n), fin _ _ fun k hk => ?_, ⟨fun h => ?_, fun h => ?_⟩⟩
      · rw [run1 k hk, if_pos rfl, if_pos rfl, w64 (n := n - 1) (by omega), w64 (n := -(n - 1)) (by omega), keep_eval]
        simp only [Option.bind_some]
        split <;> simp_all
      · rw [if_pos h]
        have h2 := of_decide_eq_true h
        have h3 : least ≤ mx least (-(n - 1)) ∧ -(n - 1) ≤ mx least (-(n - 1)) ∧ (mx least (-(n - 1)) = least ∨ mx least (-(n - 1)) = -(n - 1)) := by unfold mx; split <;> omega
        generalize mx least (-(n - 1)) = d at h2 h3
        refine ⟨h3.1, ?_, fun i j hp hl => ?_⟩
        · by_cases hd : 0 ≤ d
          · exact ⟨0, hP _ _ (by omega) (by omega) (by omega) (by omega)⟩
          · exact ⟨-d, hP _ _ (by omega) (by omega) (by omega) (by omega)⟩
        · unfold Pair at hp; omega
      · rw [if_neg (by rw [h]; simp)]
        have h2 := of_decide_eq_false h
        have h3 : (mx least (-(n - 1)) = least ∨ mx least (-(n - 1)) = -(n - 1)) := by unfold mx; split <;> omega
        refine ⟨rfl, fun i j hp => ?_⟩
        unfold Pair at hp; omega
    | false =>
      subst hw
      obtain ⟨hft, hk, hs, hz'⟩ := hz.some rfl rfl
      have pairs : ∀ i j, Pair pb ps qb qs n n i j → ∃ k, i = X + DX * k ∧ j = Y + DY * k ∧ f ≤ k ∧ k ≤ t := by
        intro i j h
        unfold Pair at h
        obtain ⟨k, hi, hj⟩ := hs.all hz' rfl (i := i) (j := j) (by rw [Int.neg_mul]; omega)
        have := (hk k).mpr (by omega)
        exact ⟨k, hi, hj, this.1, this.2⟩
      have mem : ∀ k, f ≤ k → k ≤ t → Pair pb ps qb qs n n (X + DX * k) (Y + DY * k) := by
        intro k k1 k2
        have h1 := (hk k).mp ⟨k1, k2⟩
        have h2 := hs.each hz' rfl k
        rw [Int.neg_mul] at h2
        exact ⟨h1.1, h1.2.1, h1.2.2.1, h1.2.2.2, by omega⟩
      have sub : ∀ k, (DY - DX) * k = DY * k - DX * k := fun k => Int.sub_mul _ _ _
      have wit : ∀ k, f ≤ k → k ≤ t → ∃ i, Pair pb ps qb qs n n i (i + (Y - X + (DY - DX) * k)) := by
        intro k k1 k2
        have := mem k k1 k2
        refine ⟨X + DX * k, ?_⟩
        have e : X + DX * k + (Y - X + (DY - DX) * k) = Y + DY * k := by rw [sub]; omega
        rw [e]; exact this
      have bnd : ∀ k, f ≤ k → k ≤ t → ((DY - DX) * k).natAbs ≤ 1000000000000000000 := by
        intro k k1 k2
        have := mem k k1 k2
        unfold Pair at this
        rw [sub]; omega
      by_cases hst : DY - DX = 0
      · refine ⟨if decide (Y - X ≥ least) = true then Y - X else 0, decide (Y - X ≥ least), fin _ _ fun k hk => ?_, ⟨fun h => ?_, fun h => ?_⟩⟩
        · rw [run1 k hk, if_pos rfl, if_neg (by simp), w64 (n := DY - DX) (by omega), if_pos hst, w64 (n := Y - X) (by omega), keep_eval]
          simp only [Option.bind_some]
          split <;> simp_all
        · rw [if_pos h]
          have h2 := of_decide_eq_true h
          refine ⟨h2, ?_, fun i j hp hl => ?_⟩
          · have := wit f (by omega) hft
            rw [hst, Int.zero_mul, Int.add_zero] at this
            exact this
          · obtain ⟨k', hi, hj, k1, k2⟩ := pairs i j hp
            have := sub k'
            rw [hst, Int.zero_mul] at this
            omega
        · rw [if_neg (by rw [h]; simp)]
          have h2 := of_decide_eq_false h
          refine ⟨rfl, fun i j hp => ?_⟩
          obtain ⟨k', hi, hj, k1, k2⟩ := pairs i j hp
          have := sub k'
          rw [hst, Int.zero_mul] at this
          omega
      · by_cases hpos : DY - DX > 0
        · have hc := ceil_le_pos (a := least - (Y - X)) (s := DY - DX) (by omega) (k := 0)
          have base : ∀ k, 2147483700 < k → affine_Ahead.j1 (k + 1) n least 0 pb ps qb qs = (if (mx f (-((-(least - (Y - X))).fdiv (DY - DX)))) > t then (some (0, false, 0)) else ((affine_span_least.f (mx f (-((-(least - (Y - X))).fdiv (DY - DX)))) t (Y - X) (DY - DX)).bind fun t203 => (some (t203, true, 0)))) := by
            intro k hk
            rw [run1 k hk, if_pos rfl, if_neg (by simp), w64 (n := DY - DX) (by omega), if_neg hst, if_pos hpos, w64 (n := Y - X) (by omega), w64 (n := least - (Y - X)) (by omega), ceil_eval hst (by omega)]
            rfl
          have cl : ∀ k, mx f (-((-(least - (Y - X))).fdiv (DY - DX))) ≤ k ↔ f ≤ k ∧ least - (Y - X) ≤ (DY - DX) * k := by
            intro k
            rw [mx_le, ceil_le_pos (by omega)]
          generalize mx f (-((-(least - (Y - X))).fdiv (DY - DX))) = f' at base cl
          have cf := (cl f').mp (Int.le_refl _)
          by_cases hlt : f' > t
          · refine ⟨0, false, fin _ _ fun k hk => by rw [base k hk, if_pos hlt], ⟨fun h => (by cases h), fun _ => ⟨rfl, fun i j hp hl => ?_⟩⟩⟩
            obtain ⟨k', hi, hj, k1, k2⟩ := pairs i j hp
            have := (cl k').mpr ⟨k1, by rw [sub]; omega⟩
            omega
          · have hmono : (DY - DX) * f' ≤ (DY - DX) * t := Int.mul_le_mul_of_nonneg_left (by omega) (by omega)
            refine ⟨Y - X + (DY - DX) * f', true, fin _ _ fun k hk => ?_, ⟨fun _ => ⟨by omega, wit f' cf.1 (by omega), fun i j hp hl => ?_⟩, fun h => (by cases h)⟩⟩
            · rw [base k hk, if_neg hlt, least_eval2 (bnd f' cf.1 (by omega)) (bnd t hft (Int.le_refl _)) (by omega)]
              simp only [Option.bind_some]
              congr 2
              unfold mn; split <;> omega
            · obtain ⟨k', hi, hj, k1, k2⟩ := pairs i j hp
              have h5 := (cl k').mpr ⟨k1, by rw [sub]; omega⟩
              have h6 : (DY - DX) * f' ≤ (DY - DX) * k' := Int.mul_le_mul_of_nonneg_left h5 (by omega)
              rw [sub k'] at h6
              omega
        · have hneg : DY - DX < 0 := by omega
          have base : ∀ k, 2147483700 < k → affine_Ahead.j1 (k + 1) n least 0 pb ps qb qs = (if f > (mn t ((least - (Y - X)).fdiv (DY - DX))) then (some (0, false, 0)) else ((affine_span_least.f f (mn t ((least - (Y - X)).fdiv (DY - DX))) (Y - X) (DY - DX)).bind fun t203 => (some (t203, true, 0)))) := by
            intro k hk
            rw [run1 k hk, if_pos rfl, if_neg (by simp), w64 (n := DY - DX) (by omega), if_neg hst, if_neg hpos, w64 (n := Y - X) (by omega), w64 (n := least - (Y - X)) (by omega), floor_eval hst (by omega)]
            rfl
          have cl : ∀ k, k ≤ mn t ((least - (Y - X)).fdiv (DY - DX)) ↔ k ≤ t ∧ least - (Y - X) ≤ (DY - DX) * k := by
            intro k
            rw [le_mn, le_fdiv_neg hneg]
          generalize mn t ((least - (Y - X)).fdiv (DY - DX)) = t' at base cl
          have cf := (cl t').mp (Int.le_refl _)
          by_cases hlt : f > t'
          · refine ⟨0, false, fin _ _ fun k hk => by rw [base k hk, if_pos hlt], ⟨fun h => (by cases h), fun _ => ⟨rfl, fun i j hp hl => ?_⟩⟩⟩
            obtain ⟨k', hi, hj, k1, k2⟩ := pairs i j hp
            have := (cl k').mpr ⟨k2, by rw [sub]; omega⟩
            omega
          · have anti : ∀ a b, a ≤ b → (DY - DX) * b ≤ (DY - DX) * a := by
              intro a b hab
              have : (DX - DY) * a ≤ (DX - DY) * b := Int.mul_le_mul_of_nonneg_left hab (by omega)
              rw [Int.sub_mul, Int.sub_mul] at this
              rw [sub, sub]; omega
            have hmono := anti f t' (by omega)
            refine ⟨Y - X + (DY - DX) * t', true, fin _ _ fun k hk => ?_, ⟨fun _ => ⟨by omega, wit t' (by omega) cf.1, fun i j hp hl => ?_⟩, fun h => (by cases h)⟩⟩
            · rw [base k hk, if_neg hlt, least_eval2 (bnd f (Int.le_refl _) hft) (bnd t' (by omega) cf.1) (by omega)]
              simp only [Option.bind_some]
              congr 2
              unfold mn; split <;> omega
            · obtain ⟨k', hi, hj, k1, k2⟩ := pairs i j hp
              have h5 := (cl k').mpr ⟨k2, by rw [sub]; omega⟩
              have h6 := anti k' t' h5
              rw [sub k'] at h6
              omega

/-- What Behind returns. -/
structure BehindOf (pb ps qb qs n d : Int) (ok : Bool) : Prop where
  yes : ok = true → (∃ i, Pair pb ps qb qs n n i (i + d)) ∧ ∀ i j, Pair pb ps qb qs n n i j → j - i ≤ d
  no : ok = false → d = 0 ∧ ∀ i j, ¬ Pair pb ps qb qs n n i j
theorem BehindOf.unique {pb ps qb qs n d d' : Int} {ok ok' : Bool} (h : BehindOf pb ps qb qs n d ok) (h' : BehindOf pb ps qb qs n d' ok') : d = d' ∧ ok = ok' := by
  cases ho : ok <;> cases ho' : ok'
  · have := h.no ho; have := h'.no ho'; exact ⟨by omega, rfl⟩
  · obtain ⟨⟨i, hp⟩, _⟩ := h'.yes ho'
    exact absurd hp ((h.no ho).2 _ _)
  · obtain ⟨⟨i, hp⟩, _⟩ := h.yes ho
    exact absurd hp ((h'.no ho').2 _ _)
  · obtain ⟨⟨i, hp⟩, b⟩ := h.yes ho
    obtain ⟨⟨i', hp'⟩, b'⟩ := h'.yes ho'
    have c := b _ _ hp'; have d := b' _ _ hp
    exact ⟨by omega, rfl⟩
theorem Pair.swap {pb ps qb qs n m i j : Int} : Pair pb ps qb qs n m i j ↔ Pair qb qs pb ps m n j i := by unfold Pair; omega
/-- Ahead from -n on of q, p, with the other sign, is Behind of p, q. -/
theorem AheadOf.behind {pb ps qb qs n d : Int} {ok : Bool} (h : AheadOf qb qs pb ps n (-n) d ok) : BehindOf pb ps qb qs n (-d) ok := by
  refine ⟨fun ho => ?_, fun ho => ?_⟩
  · obtain ⟨a, ⟨i, hp⟩, b⟩ := h.yes ho
    refine ⟨⟨i + d, ?_⟩, fun i' j' hp' => ?_⟩
    · rw [Pair.swap]
      have : i + d + -d = i := by omega
      rw [this]; exact hp
    · have := b _ _ (Pair.swap.mp hp')
      unfold Pair at hp'
      omega
  · obtain ⟨a, b⟩ := h.no ho
    refine ⟨by omega, fun i j hp => ?_⟩
    have := b _ _ (Pair.swap.mp hp)
    unfold Pair at hp
    omega
theorem good_swap {pb ps qb qs : Int} {l : List Int} : Good pb ps qb qs l ↔ Good qb qs pb ps l := by
  simp [Good, inb]; omega
theorem Behind_eval {pb ps qb qs n : Int} (hg : Good pb ps qb qs [n]) (hn : 0 ≤ n) :
    ∃ d ok, (∀ k, 2147483800 < k → affine_Behind.f k pb ps qb qs n = some (d, ok, 0)) ∧ BehindOf pb ps qb qs n d ok := by
  have hg' : Good qb qs pb ps [n, -n] := by
    simp [Good, inb] at hg ⊢; omega
  obtain ⟨d, ok, he, h⟩ := Ahead_eval hg' hn
  obtain ⟨_, _, _, _, b5, _⟩ := hg'.two
  have hd : d.natAbs ≤ 4294967296 := by
    cases ho : ok
    · have := h.no ho; omega
    · obtain ⟨a, ⟨i, hp⟩, _⟩ := h.yes ho
      unfold Pair at hp; omega
  refine ⟨-d, ok, fun k hk => ?_, h.behind⟩
  unfold affine_Behind.f
  have : mx n 0 = n := by unfold mx; split <;> omega
  rw [this, w64 (n := -n) (by omega), he k hk]
  simp only [Option.bind_some]
  rw [w64 (n := -d) (by omega)]
theorem Behind_limit {pb ps qb qs n : Int} (hg : ¬ Good pb ps qb qs [n]) (hn : -9223372036854775808 ≤ n ∧ n ≤ 9223372036854775807) {k : Nat} (hk : 2147483800 < k) : affine_Behind.f k pb ps qb qs n = some (0, false, 3) := by
  unfold affine_Behind.f
  have h1 : mx n 0 = (if n < 0 then 0 else n) := rfl
  rw [Ahead_limit _ hk]
  · simp only [Option.bind_some]; rw [w64 (n := -0) (by omega)]; rfl
  · intro h
    apply hg
    simp [Good, inb] at h ⊢; omega
theorem Behind_arg {pb ps qb qs n : Int} (hg : Good pb ps qb qs [n]) (hn : n < 0) {k : Nat} (hk : 2147483800 < k) : affine_Behind.f k pb ps qb qs n = some (0, false, 2) := by
  unfold affine_Behind.f
  have h1 : mx n 0 = 0 := by unfold mx; split <;> omega
  rw [h1, Ahead_arg _ hn hk]
  · simp only [Option.bind_some]; rw [w64 (n := -0) (by omega)]; rfl
  · simp [Good, inb, wrap64] at hg ⊢; omega

theorem fmod_of {a m z q : Int} (hm : 0 < m) (h0 : 0 ≤ z) (h1 : z < m) (h : a = m * q + z) : a.fmod m = z := by
  have h2 := fdiv_spec a m
  have h3 : a.fdiv m = q := fdiv_of (by omega) (by omega)
  rw [h3] at h2; omega
theorem refmod_eval {a m : Int} (hm : 0 < m) (hm' : m ≤ 1000000000000000000) : biremeref14_mod.f a m = some (a.fmod m) := by
  have h1 := tdiv_spec a m
  have h2 := tmod_spec (a := a) (b := m) (by omega)
  have h3 := tdiv_spec (a.tmod m + m) m
  have h4 := tmod_spec (a := a.tmod m + m) (b := m) (by omega)
  unfold biremeref14_mod.f
  rw [if_neg (by omega), w64 (by omega), fmod_of (a := a) (m := m) (z := (a.tmod m + m).tmod m) (q := a.tdiv m + (a.tmod m + m).tdiv m - 1) hm (by omega) (by omega)]
  rw [Int.mul_sub, Int.mul_add]; omega
theorem down_eval {a m : Int} (hm : 0 < m) (hm' : m ≤ 1000000000000000000) (ha : a.natAbs ≤ 1000000000000000000) : biremeref14_down.f a m = some (a.fdiv m) := by
  have h1 := fdiv_spec a m
  have h2 := fmod_pos (a := a) hm
  have h3 := fdiv_abs (a := a) (b := m) (by omega)
  unfold biremeref14_down.f
  rw [refmod_eval hm hm']
  simp only [Option.bind_some]
  rw [if_neg (by omega), w64 (n := a - a.fmod m) (by omega), tdiv_of (q := a.fdiv m) (by omega) (by omega), w64 (by omega)]
theorem up_eval {a m : Int} (hm : 0 < m) (hm' : m ≤ 1000000000000000000) (ha : a.natAbs ≤ 1000000000000000000) : biremeref14_up.f a m = some (-((-a).fdiv m)) := by
  have h3 := fdiv_abs (a := -a) (b := m) (by omega)
  unfold biremeref14_up.f
  rw [w64 (n := -a) (by omega), down_eval hm hm' (by omega)]
  simp only [Option.bind_some]
  rw [w64 (by omega)]
theorem refabs_eval {a : Int} (ha : a.natAbs ≤ 9000000000000000000) : biremeref14_abs.f a = some (a.natAbs : Int) := by
  unfold biremeref14_abs.f
  split
  · rw [w64 (by omega)]; congr 1; omega
  · congr 1; omega
theorem bez_base {a : Int} (ha : 0 ≤ a) : Bez a 0 a 1 0 := ⟨ha, Int.dvd_refl _, Int.dvd_zero _, by omega⟩
theorem refeuclid_eval (n : Nat) : ∀ (a b : Int), 0 ≤ a → 0 ≤ b → b ≤ n → a ≤ 1000000000000 → b ≤ 1000000000000 →
    ∃ g x y, (∀ k, n < k → biremeref14_euclid.f k a b = some (g, x, y)) ∧ Bez a b g x y ∧ (b ≠ 0 → x.natAbs < b.natAbs) ∧ (b ≠ 0 → y.natAbs ≤ a.natAbs + 1) ∧ (b = 0 → x = 1 ∧ y = 0) := by
  induction n with
  | zero =>
    intro a b ha hb hn ha' hb'
    obtain rfl : b = 0 := by omega
    refine ⟨a, 1, 0, fun k hk => ?_, bez_base ha, fun h => (h rfl).elim, fun h => (h rfl).elim, fun _ => ⟨rfl, rfl⟩⟩
    obtain ⟨k, rfl⟩ : ∃ m, k = m + 1 := ⟨k - 1, by omega⟩
    simp only [biremeref14_euclid.f]
    rfl
  | succ n ih =>
    intro a b ha hb hn ha' hb'
    by_cases hb0 : b = 0
    · subst hb0
      refine ⟨a, 1, 0, fun k hk => ?_, bez_base ha, fun h => (h rfl).elim, fun h => (h rfl).elim, fun _ => ⟨rfl, rfl⟩⟩
      obtain ⟨k, rfl⟩ : ∃ m, k = m + 1 := ⟨k - 1, by omega⟩
      simp only [biremeref14_euclid.f]
      rfl
    · have hbp : 0 < b := by omega
      have hr := fmod_pos (a := a) hbp
      have e1 : a.tmod b = a.fmod b := (Int.fmod_eq_tmod_of_nonneg ha hb).symm
      have e2 : a.tdiv b = a.fdiv b := (Int.fdiv_eq_tdiv_of_nonneg ha hb).symm
      obtain ⟨g, x, y, he, hz, hx, hy, h0⟩ := ih b (a.fmod b) hb hr.1 (by omega) hb' (by omega)
      have hq := fdiv_abs (a := a) hb0
      have hyb : y.natAbs < b.natAbs := by
        by_cases hr0 : a.fmod b = 0
        · have := h0 hr0; omega
        · exact bez_strict hz hr0 (by omega) (hx hr0)
      have hs := bez_step hz
      have hyn := bez_bound hs hb0 hyb
      have hxb : x.natAbs ≤ 1000000000000 := by
        by_cases hr0 : a.fmod b = 0
        · have := h0 hr0; omega
        · have := hx hr0; omega
      refine ⟨g, y, x - a.fdiv b * y, fun k hk => ?_, hs, fun _ => hyb, fun _ => hyn, fun h => (hb0 h).elim⟩
      obtain ⟨k, rfl⟩ : ∃ m, k = m + 1 := ⟨k - 1, by omega⟩
      simp only [biremeref14_euclid.f]
      rw [if_neg hb0, e1, he k (by omega)]
      simp only [Option.bind_some]
      rw [e2, w64 (n := a.fdiv b) (by omega), w64 (n := a.fdiv b * y) (by omega), w64 (by omega)]

/-- What Gcd returns. -/
structure GcdOf (a b g x y : Int) : Prop where
  bez : Bez a b g x y
  zero : b = 0 → x = (if a < 0 then -1 else if a > 0 then 1 else 0) ∧ y = 0
  least : b ≠ 0 → 0 ≤ x ∧ ∃ m, g * m = b.natAbs ∧ x < m
theorem GcdOf.unique {a b g x y g' x' y' : Int} (h : GcdOf a b g x y) (h' : GcdOf a b g' x' y') : g = g' ∧ x = x' ∧ y = y' := by
  have e := h.bez.unique h'.bez
  subst e
  refine ⟨rfl, ?_⟩
  by_cases hb : b = 0
  · have := h.zero hb; have := h'.zero hb; omega
  · obtain ⟨a1, m, hm, a2⟩ := h.least hb
    obtain ⟨b1, m', hm', b2⟩ := h'.least hb
    have hg := h.bez.g_pos (.inr hb)
    have : m = m' := Int.eq_of_mul_eq_mul_left (a := g) (by omega) (by omega)
    subst this
    exact h.bez.only hb (by omega) a1 a2 b1 b2 h.bez.made h'.bez.made
theorem gcdOf_eval {a b : Int} (ha : a.natAbs ≤ 2147483648) (hb : b.natAbs ≤ 2147483648) :
    ∃ g x y, (∀ k, 2147483700 < k → affine_gcd.f k a b = some (g, x, y)) ∧ GcdOf a b g x y := by
  obtain ⟨g, x, y, he, hz, h0, h1⟩ := gcd_eval ha hb
  exact ⟨g, x, y, fun k hk => he k (by omega), hz, fun h => (h0 h).2, h1⟩
/-- the x from 0 to below |b| / g, with its y. -/
theorem norm_x {a b g x y : Int} (hz : Bez a b g x y) (hb : b ≠ 0) : ∃ m, 0 < m ∧ m.natAbs ≤ b.natAbs ∧ g * m = b.natAbs ∧ (b.natAbs : Int).tdiv g = m ∧ 0 ≤ x.fmod m ∧ x.fmod m < m ∧ a * x.fmod m + b * (g - a * x.fmod m).tdiv b = g ∧ (a * x.fmod m).natAbs ≤ a.natAbs * b.natAbs := by
  have hg := hz.g_pos (.inr hb)
  have hgb : g ∣ (b.natAbs : Int) := Int.dvd_natAbs.mpr hz.right
  have hm := tdiv_dvd hgb
  generalize hmm : (b.natAbs : Int).tdiv g = m at hm
  have hmp : 0 < m := by
    apply Classical.byContradiction
    intro h
    have : g * m ≤ 0 := Int.mul_nonpos_of_nonneg_of_nonpos (by omega) (by omega)
    omega
  have hmb : m ≤ b.natAbs := by
    have : 1 * m ≤ g * m := Int.mul_le_mul_of_nonneg_right (by omega) (by omega)
    omega
  have hu := fmod_pos (a := x) hmp
  have hq := fdiv_spec x m
  obtain ⟨A, hA⟩ := hz.left
  have hgm : b = g * m ∨ b = -(g * m) := by omega
  have hv : b ∣ g - a * (x.fmod m) := by
    have h1 := hz.made
    have h2 : g - a * (x.fmod m) = b * y + (A * x.fdiv m) * (g * m) := by grind
    rw [h2]
    rcases hgm with h | h
    · exact Int.dvd_add (Int.dvd_mul_right b y) (Int.dvd_mul_of_dvd_right (by rw [← h]; exact Int.dvd_refl b))
    · exact Int.dvd_add (Int.dvd_mul_right b y) (Int.dvd_mul_of_dvd_right (Int.dvd_neg.mp (by rw [← h]; exact Int.dvd_refl b)))
  have hw := tdiv_dvd hv
  have hau2 : (a * x.fmod m).natAbs ≤ a.natAbs * b.natAbs := by
    rw [Int.natAbs_mul]; exact Nat.mul_le_mul (by omega) (by omega)
  exact ⟨m, hmp, by omega, hm, rfl, hu.1, hu.2, by omega, hau2⟩

theorem refGcd_eval {a b : Int} (ha : a.natAbs ≤ 2147483648) (hb : b.natAbs ≤ 2147483648) :
    ∃ g x y, (∀ k, 2147483710 < k → biremeref14_Gcd.f k a b = some (g, x, y)) ∧ GcdOf a b g x y := by
  by_cases hb0 : b = 0
  · subst hb0
    refine ⟨a.natAbs, (if a < 0 then -1 else if a > 0 then 1 else 0), 0, fun k hk => ?_, bez_zero a, fun _ => ⟨rfl, rfl⟩, fun h => (h rfl).elim⟩
    obtain ⟨k, rfl⟩ : ∃ m, k = m + 2 := ⟨k - 2, by omega⟩
    unfold biremeref14_Gcd.f
    by_cases ha0 : a = 0
    · subst ha0
      simp only [biremeref14_Gcd.j0]
      rfl
    · rw [if_neg ha0]
      simp only [biremeref14_Gcd.j0, biremeref14_Gcd.j1]
      rw [if_neg (by simp), if_pos trivial]
      by_cases hn : a < 0
      · have : decide (a < 0) = true := by simpa using hn
        rw [this, if_pos rfl, w64 (by omega), if_pos hn]
        congr 2; omega
      · have : decide (a < 0) = false := by simpa using hn
        rw [this, if_neg (by simp), if_pos trivial, if_neg hn, if_pos (by omega)]
        congr 2; omega
  · obtain ⟨g, x, y, he, hz, hx, hy, _⟩ := refeuclid_eval b.natAbs (a.natAbs) (b.natAbs) (by omega) (by omega) (by omega) (by omega) (by omega)
    -- with the signs
    have hz' : Bez a b g (if a < 0 then -x else x) (if b < 0 then -y else y) := by
      have h1 := hz.made
      refine ⟨hz.pos, Int.dvd_natAbs.mp hz.left, Int.dvd_natAbs.mp hz.right, ?_⟩
      have e1 : a * (if a < 0 then -x else x) = (a.natAbs : Int) * x := by
        split
        · have : (a.natAbs : Int) = -a := by omega
          rw [this, Int.mul_neg, Int.neg_mul]
        · have : (a.natAbs : Int) = a := by omega
          rw [this]
      have e2 : b * (if b < 0 then -y else y) = (b.natAbs : Int) * y := by
        split
        · have : (b.natAbs : Int) = -b := by omega
          rw [this, Int.mul_neg, Int.neg_mul]
        · have : (b.natAbs : Int) = b := by omega
          rw [this]
      omega
    have hxb := hx (by omega)
    obtain ⟨m, hm0, hmb, hgm, hmm, hu0, hu1, hmade, hsz⟩ := norm_x hz' hb0
    have hau := nat_mul_le ha hb
    generalize hX : (if a < 0 then -x else x) = X at *
    have hXb : X.natAbs < b.natAbs := by rw [← hX]; split <;> omega
    have hgl : g.natAbs ≤ b.natAbs := dvd_le hz'.right hb0
    have hgp := hz'.g_pos (.inr hb0)
    refine ⟨g, X.fmod m, (g - a * X.fmod m).tdiv b, fun k hk => ?_, ⟨hz'.pos, hz'.left, hz'.right, hmade⟩, fun h => (hb0 h).elim, fun _ => ⟨hu0, m, hgm, hu1⟩⟩
    obtain ⟨k, rfl⟩ : ∃ m, k = m + 2 := ⟨k - 2, by omega⟩
    have hbd := tdiv_abs (g - a * X.fmod m) b
    have st : biremeref14_Gcd.f (k + 2) a b = biremeref14_Gcd.j1 (k + 1) a b false := by
      unfold biremeref14_Gcd.f
      have hbb : (b == 0) = false := by simpa using hb0
      split
      · simp only [biremeref14_Gcd.j0]
        rw [hbb, if_neg (by simp), if_neg hb0]
      · simp only [biremeref14_Gcd.j0]
        rw [if_neg (by simp), if_neg hb0]
    rw [st]
    simp only [biremeref14_Gcd.j1]
    rw [if_neg (by simp), if_neg hb0, refabs_eval (by omega)]
    simp only [Option.bind_some]
    rw [refabs_eval (by omega)]
    simp only [Option.bind_some]
    rw [he k (by omega)]
    simp only [Option.bind_some]
    have tail : ∀ X' : Int, X' = X → (biremeref14_mod.f X' (wrap64 (Int.tdiv (b.natAbs : Int) g))).bind (fun t => (some (g, t, wrap64 (Int.tdiv (wrap64 (g - (wrap64 (a * t)))) b)) : Option (Int × Int × Int))) = some (g, X.fmod m, (g - a * X.fmod m).tdiv b) := by
      intro X' e
      subst e
      rw [hmm, w64 (n := m) (by omega), refmod_eval hm0 (by omega)]
      simp only [Option.bind_some]
      rw [w64 (n := a * X'.fmod m) (by omega), w64 (n := g - a * X'.fmod m) (by omega), w64 (by omega)]
    by_cases hn : a < 0
    · rw [if_pos hn, if_neg (by omega), w64 (n := -x) (by omega)]
      exact tail _ (by rw [← hX, if_pos hn])
    · rw [if_neg hn, if_neg (by omega)]
      exact tail _ (by rw [← hX, if_neg hn])

theorem w64n {n : Int} (h : n.natAbs ≤ 9223372036854775807) : wrap64 n = n := w64 (by omega)
theorem sum_le {Y c p : Int} {C P B : Nat} (h : Y.natAbs ≤ (c - p).natAbs) (hc : c.natAbs ≤ C) (hp : p.natAbs ≤ P) (hB : C + P ≤ B) : Y.natAbs ≤ B := by omega
theorem nn_le {X m : Int} {B : Nat} (h0 : 0 ≤ X) (h1 : X < m) (hm : m.natAbs ≤ B) : X.natAbs ≤ B := by omega
theorem neg_abs {B m : Int} (h : B < 0) (hm : m = (B.natAbs : Int)) : -B = m := by omega
theorem pos_abs {B m : Int} (h : ¬ B < 0) (hm : m = (B.natAbs : Int)) : B = m := by omega
set_option maxHeartbeats 2000000 in
theorem refSolve_eval {a b c : Int} (ha : a.natAbs ≤ 2147483648) (hb : b.natAbs ≤ 2147483648) (hc : c.natAbs ≤ 4294967296) :
    ∃ X DX Y DY ok, (∀ k, 2147483720 < k → biremeref14_Solve.f k a b c = some (X, DX, Y, DY, ok)) ∧ Sol a b c X DX Y DY ok := by
  by_cases hz : a = 0 ∧ b = 0
  · obtain ⟨rfl, rfl⟩ := hz
    refine ⟨0, 0, 0, 0, (c == 0), fun k hk => ?_, ⟨fun _ _ => by simp, fun h => by omega, fun h => by omega, fun _ h => by omega, fun h => by omega⟩⟩
    obtain ⟨k, rfl⟩ : ∃ m, k = m + 1 := ⟨k - 1, by omega⟩
    unfold biremeref14_Solve.f
    rw [if_pos rfl]
    simp only [biremeref14_Solve.j0]
    rw [if_pos (by rfl)]
  · have hz' : a ≠ 0 ∨ b ≠ 0 := by omega
    have hf : ∀ k, biremeref14_Solve.f k a b c = biremeref14_Solve.j0 k a b c false := by
      intro k
      unfold biremeref14_Solve.f
      split
      · have : (b == 0) = false := by simp; omega
        rw [this]
      · rfl
    obtain ⟨g, x, y, he, hg⟩ := refGcd_eval ha hb
    have hgp := hg.bez.g_pos hz'
    by_cases hd : g ∣ c
    · obtain ⟨A, hA⟩ := hg.bez.left
      obtain ⟨B, hB⟩ := hg.bez.right
      obtain ⟨C, hC⟩ := hd
      have hAe : (-a).tdiv g = -A := tdiv_of (by omega) (by rw [Int.mul_neg]; omega)
      have hBe : b.tdiv g = B := tdiv_of (by omega) hB
      have hCe : c.tdiv g = C := tdiv_of (by omega) hC
      have bA := tdiv_abs (-a) g; have bB := tdiv_abs b g; have bC := tdiv_abs c g
      rw [hAe] at bA; rw [hBe] at bB; rw [hCe] at bC
      by_cases hb0 : b = 0
      · have ha0 : a ≠ 0 := by omega
        have hac : a ∣ c := by
          have h1 := hg.bez.made
          rw [hb0] at h1
          refine ⟨x * C, ?_⟩
          rw [hC, ← h1]; grind
        have hXe := tdiv_dvd hac
        have bX := tdiv_abs c a
        refine ⟨c.tdiv a, 0, 0, 1, true, fun k hk => ?_, ⟨fun h => by omega, fun _ h => (by cases h), fun _ _ => ⟨by rw [hb0]; omega, by rw [hb0]; omega⟩, fun _ _ _ => ⟨rfl, rfl, rfl, by omega⟩, fun h => (h hb0).elim⟩⟩
        obtain ⟨k, rfl⟩ : ∃ m, k = m + 1 := ⟨k - 1, by omega⟩
        rw [hf]
        simp only [biremeref14_Solve.j0]
        rw [if_neg (by simp), he k (by omega)]
        simp only [Option.bind_some]
        rw [if_neg (by omega), if_pos (tmod_dvd.mpr ⟨C, hC⟩), if_pos hb0, if_neg ha0, w64 (by omega)]
      · obtain ⟨hx0, m, hgm, hxm⟩ := hg.least hb0
        have hB0 : B ≠ 0 := by intro h; rw [h] at hB; omega
        have hmp : 0 < m := by omega
        have hmB : m = B.natAbs := by
          have : g * m = g * B.natAbs := by
            rw [hgm, hB, Int.natAbs_mul]
            have : (g.natAbs : Int) = g := by omega
            rw [Int.natCast_mul, this]
          exact Int.eq_of_mul_eq_mul_left (by omega) this
        have wm : m.natAbs ≤ 2147483648 := by rw [hmB, Int.natAbs_natCast]; exact Nat.le_trans bB hb
        have rc := fmod_pos (a := C) hmp
        have rx := fmod_pos (a := x * C.fmod m) hmp
        have bxc := mul_abs (a := x) (b := C.fmod m) (A := 2147483648) (B := 2147483648) (nn_le hx0 hxm wm) (nn_le rc.1 rc.2 wm)
        generalize hX : (x * C.fmod m).fmod m = X at rx
        have hdB : B ∣ C - A * X := by
          have e2 := fdiv_spec C m
          have e3 := fdiv_spec (x * C.fmod m) m
          rw [hX] at e3
          have h1 : A * x + B * y = 1 := by
            have := hg.bez.made
            have h2 : g * (A * x + B * y) = g * 1 := by grind
            exact Int.eq_of_mul_eq_mul_left (by omega) h2
          have hm2 : m = B ∨ m = -B := by omega
          clear hmB
          rcases hm2 with h | h
          · refine ⟨y * C.fmod m + C.fdiv m + A * (x * C.fmod m).fdiv m, ?_⟩
            rw [h] at e2 e3 ⊢
            grind
          · refine ⟨y * C.fmod m - C.fdiv m - A * (x * C.fmod m).fdiv m, ?_⟩
            rw [h] at e2 e3 ⊢
            grind
        obtain ⟨Y, hY⟩ := hdB
        have heq : a * X + b * Y = c := by rw [hA, hB, hC]; grind
        have hAX := mul_abs (a := a) (b := X) (A := 2147483648) (B := 2147483648) ha (nn_le rx.1 rx.2 wm)
        have hYe : (c - a * X).tdiv b = Y := tdiv_of hb0 (by rw [← heq]; grind)
        have bY := tdiv_abs (c - a * X) b
        rw [hYe] at bY
        have wA : A.natAbs ≤ 2147483648 := by rw [Int.natAbs_neg, Int.natAbs_neg] at bA; exact Nat.le_trans bA ha
        have wB : B.natAbs ≤ 2147483648 := Nat.le_trans bB hb
        have wC : C.natAbs ≤ 4294967296 := Nat.le_trans bC hc
        have wY : Y.natAbs ≤ 5000000000000000000 := sum_le bY hc hAX (by decide)
        have v1 : wrap64 (-a) = -a := w64n (by rw [Int.natAbs_neg]; exact Nat.le_trans ha (by decide))
        have v2 : wrap64 B = B := w64n (Nat.le_trans wB (by decide))
        have v3 : wrap64 (-A) = -A := w64n (by rw [Int.natAbs_neg]; exact Nat.le_trans wA (by decide))
        have v4 : wrap64 C = C := w64n (Nat.le_trans wC (by decide))
        have v5 : wrap64 (-B) = -B := w64n (by rw [Int.natAbs_neg]; exact Nat.le_trans wB (by decide))
        have v6 : wrap64 (x * C.fmod m) = x * C.fmod m := w64n (Nat.le_trans bxc (by decide))
        have v7 : wrap64 (a * X) = a * X := w64n (Nat.le_trans hAX (by decide))
        have v8 : wrap64 (c - a * X) = c - a * X := w64n (sum_le (Nat.le_refl _) hc hAX (by decide))
        have v9 : wrap64 Y = Y := w64n (Nat.le_trans wY (by decide))
        have v10 : wrap64 (- -A) = A := by rw [Int.neg_neg]; exact w64n (Nat.le_trans wA (by decide))
        have vm : m ≤ 1000000000000000000 := by rw [hmB]; exact Int.ofNat_le.mpr (Nat.le_trans wB (by decide))
        have run : ∀ k, 2147483720 < k → biremeref14_Solve.f k a b c = if B < 0 then some (X, -B, Y, A, true) else some (X, B, Y, -A, true) := by
          intro k hk
          obtain ⟨k, rfl⟩ : ∃ m, k = m + 1 := ⟨k - 1, by omega⟩
          rw [hf]
          simp only [biremeref14_Solve.j0]
          rw [if_neg (by simp), he k (by omega)]
          simp only [Option.bind_some]
          rw [if_neg (Int.ne_of_gt hgp), if_pos (tmod_dvd.mpr ⟨C, hC⟩), if_neg hb0, v1, hAe, hBe, hCe, v2, v3, v4, v5]
          by_cases hBn : B < 0
          · have hmm : -B = m := neg_abs hBn hmB
            rw [if_pos hBn, if_pos hBn, hmm, refmod_eval hmp vm]
            simp only [Option.bind_some]
            rw [v6, refmod_eval hmp vm, hX]
            simp only [Option.bind_some]
            rw [v7, v8, hYe, v9, v10]
          · have hmm : B = m := pos_abs hBn hmB
            rw [if_neg hBn, if_neg hBn, hmm, refmod_eval hmp vm]
            simp only [Option.bind_some]
            rw [v6, refmod_eval hmp vm, hX]
            simp only [Option.bind_some]
            rw [v7, v8, hYe, v9]
        have hs2 : a * B = b * A := by rw [hA, hB]; grind
        have bA' : A.natAbs ≤ a.natAbs := by rw [Int.natAbs_neg, Int.natAbs_neg] at bA; exact bA
        by_cases hBn : B < 0
        · have hmm : -B = m := neg_abs hBn hmB
          refine ⟨X, -B, Y, A, true, fun k hk => by rw [run k hk, if_pos hBn], ⟨fun h1 h2 => (hz ⟨h1, h2⟩).elim, fun _ h => (by cases h), fun _ _ => ⟨heq, ?_⟩, fun h => (hb0 h).elim, fun _ _ => ⟨rx.1, ?_, ?_, bA', g, x, y, hg.bez, ?_⟩⟩⟩
          · rw [Int.mul_neg, hs2]; exact Int.add_left_neg _
          · rw [hmm]; exact rx.2
          · rw [Int.natAbs_neg]; exact bB
          · rw [hmm]; exact hgm
        · have hmm : B = m := pos_abs hBn hmB
          refine ⟨X, B, Y, -A, true, fun k hk => by rw [run k hk, if_neg hBn], ⟨fun h1 h2 => (hz ⟨h1, h2⟩).elim, fun _ h => (by cases h), fun _ _ => ⟨heq, ?_⟩, fun h => (hb0 h).elim, fun _ _ => ⟨rx.1, ?_, ?_, ?_, g, x, y, hg.bez, ?_⟩⟩⟩
          · rw [Int.mul_neg, hs2]; exact Int.add_right_neg _
          · rw [hmm]; exact rx.2
          · exact bB
          · rw [Int.natAbs_neg]; exact bA'
          · rw [hmm]; exact hgm
    · refine ⟨0, 0, 0, 0, false, fun k hk => ?_, ⟨fun h => by omega, fun _ _ => ⟨rfl, rfl, rfl, rfl, fun i j e => hd ?_⟩, fun _ h => (by cases h), fun _ _ h => (by cases h), fun _ h => (by cases h)⟩⟩
      · obtain ⟨k, rfl⟩ : ∃ m, k = m + 1 := ⟨k - 1, by omega⟩
        rw [hf]
        simp only [biremeref14_Solve.j0]
        rw [if_neg (by simp), he k (by omega)]
        simp only [Option.bind_some]
        rw [if_neg (by omega), if_neg (fun h => hd (tmod_dvd.mp h))]
      · rw [← e]
        exact Int.dvd_add (Int.dvd_mul_of_dvd_left hg.bez.left) (Int.dvd_mul_of_dvd_left hg.bez.right)

/-- For c pairs the numbers are the same. -/
def CountOf (pb ps qb qs n m c : Int) : Prop := ∃ L : List (Int × Int), L.Nodup ∧ (∀ i j, (i, j) ∈ L ↔ Pair pb ps qb qs n m i j) ∧ (L.length : Int) = c
theorem CountOf.unique {pb ps qb qs n m c c' : Int} (h : CountOf pb ps qb qs n m c) (h' : CountOf pb ps qb qs n m c') : c = c' := by
  obtain ⟨L, h1, h2, h3⟩ := h
  obtain ⟨L', h1', h2', h3'⟩ := h'
  have : L.Perm L' := (List.perm_ext_iff_of_nodup h1 h1').mpr fun ⟨i, j⟩ => by rw [h2, h2']
  rw [← h3, ← h3', this.length_eq]
theorem CountOf.swap {pb ps qb qs n m c : Int} (h : CountOf pb ps qb qs n m c) : CountOf qb qs pb ps m n c := by
  obtain ⟨L, h1, h2, h3⟩ := h
  refine ⟨L.map fun x => (x.2, x.1), ?_, fun i j => ?_, by rw [List.length_map]; exact h3⟩
  · rw [List.nodup_iff_pairwise_ne, List.pairwise_map]
    exact h1.imp fun {a b} hab e => hab (by simp only [Prod.mk.injEq] at e; exact Prod.ext e.2 e.1)
  · rw [← Pair.swap, ← h2, List.mem_map]
    constructor
    · rintro ⟨⟨a, b⟩, hm, e⟩
      simp only [Prod.mk.injEq] at e
      rw [← e.1, ← e.2]; exact hm
    · intro hm
      exact ⟨(j, i), hm, rfl⟩
theorem CountOf.nonneg {pb ps qb qs n m c : Int} (h : CountOf pb ps qb qs n m c) : 0 ≤ c := by
  obtain ⟨L, _, _, h3⟩ := h; omega
theorem CountOf.zero {pb ps qb qs n m c : Int} (h : CountOf pb ps qb qs n m c) : c = 0 ↔ ∀ i j, ¬ Pair pb ps qb qs n m i j := by
  obtain ⟨L, _, h2, h3⟩ := h
  constructor
  · intro hc i j hp
    have hl : L.length = 0 := by omega
    rw [List.length_eq_zero_iff.mp hl] at h2
    exact absurd ((h2 i j).mpr hp) List.not_mem_nil
  · intro hn
    cases L with
    | nil => simpa using h3.symm
    | cons x L => exact absurd ((h2 x.1 x.2).mp List.mem_cons_self) (hn _ _)
theorem count_none {pb ps qb qs n m : Int} (h : ∀ i j, ¬ Pair pb ps qb qs n m i j) : CountOf pb ps qb qs n m 0 :=
  ⟨[], List.nodup_nil, fun i j => ⟨fun hm => absurd hm List.not_mem_nil, fun hp => absurd hp (h i j)⟩, rfl⟩
theorem all_pairs (m : Nat) (n : Nat) : ∃ L : List (Int × Int), L.Nodup ∧ (∀ i j, (i, j) ∈ L ↔ 0 ≤ i ∧ i < n ∧ 0 ≤ j ∧ j < m) ∧ L.length = n * m := by
  induction n with
  | zero => exact ⟨[], List.nodup_nil, fun i j => ⟨fun h => absurd h List.not_mem_nil, fun h => by omega⟩, by simp⟩
  | succ n ih =>
    obtain ⟨L, h1, h2, h3⟩ := ih
    have hmem : ∀ i j, (i, j) ∈ (List.range m).map (fun j : Nat => ((n : Int), (j : Int))) ↔ i = n ∧ 0 ≤ j ∧ j < m := by
      intro i j
      rw [List.mem_map]
      constructor
      · rintro ⟨r, hr, e⟩
        simp only [Prod.mk.injEq] at e
        rw [List.mem_range] at hr
        omega
      · rintro ⟨hi, h0, hj⟩
        exact ⟨j.toNat, List.mem_range.mpr (by omega), Prod.ext (by simp; omega) (by simp; omega)⟩
    refine ⟨L ++ (List.range m).map (fun j : Nat => ((n : Int), (j : Int))), ?_, fun i j => ?_, ?_⟩
    · rw [List.nodup_append]
      refine ⟨h1, ?_, ?_⟩
      · rw [List.nodup_iff_pairwise_ne, List.pairwise_map]
        exact List.nodup_range.imp fun {a b} hab e => hab (by simp only [Prod.mk.injEq] at e; omega)
      · rintro ⟨a, b⟩ ha ⟨c, d⟩ hb e
        simp only [Prod.mk.injEq] at e
        have := (h2 a b).mp ha
        have := (hmem c d).mp hb
        omega
    · rw [List.mem_append, h2, hmem]
      omega
    · rw [List.length_append, h3, List.length_map, List.length_range, Nat.add_mul, Nat.one_mul]
theorem count_all {pb ps qb qs n m : Int} (hn : 0 ≤ n) (hm : 0 ≤ m) (h : ∀ i j, Pair pb ps qb qs n m i j ↔ 0 ≤ i ∧ i < n ∧ 0 ≤ j ∧ j < m) : CountOf pb ps qb qs n m (n * m) := by
  obtain ⟨L, h1, h2, h3⟩ := all_pairs m.toNat n.toNat
  refine ⟨L, h1, fun i j => by rw [h2, h]; omega, ?_⟩
  rw [h3, Int.natCast_mul, Int.toNat_of_nonneg hn, Int.toNat_of_nonneg hm]
theorem count_line {pb ps qb qs n m X DX Y DY f t : Int} (hft : f ≤ t) (hne : DX ≠ 0 ∨ DY ≠ 0) (h : ∀ i j, Pair pb ps qb qs n m i j ↔ ∃ k, f ≤ k ∧ k ≤ t ∧ i = X + DX * k ∧ j = Y + DY * k) :
    CountOf pb ps qb qs n m (t - f + 1) := by
  refine ⟨(List.range (t - f + 1).toNat).map fun r : Nat => (X + DX * (f + r), Y + DY * (f + r)), ?_, fun i j => ?_, ?_⟩
  · rw [List.nodup_iff_pairwise_ne, List.pairwise_map]
    refine List.nodup_range.imp fun {a b} hab e => hab ?_
    simp only [Prod.mk.injEq] at e
    rcases hne with hd | hd
    · have := Int.eq_of_mul_eq_mul_left hd (by omega : DX * (f + a) = DX * (f + b)); omega
    · have := Int.eq_of_mul_eq_mul_left hd (by omega : DY * (f + a) = DY * (f + b)); omega
  · rw [h, List.mem_map]
    constructor
    · rintro ⟨r, hr, e⟩
      simp only [Prod.mk.injEq] at e
      rw [List.mem_range] at hr
      exact ⟨f + r, by omega, by omega, e.1.symm, e.2.symm⟩
    · rintro ⟨k, k1, k2, hi, hj⟩
      refine ⟨(k - f).toNat, List.mem_range.mpr (by omega), ?_⟩
      have : f + ((k - f).toNat : Int) = k := by omega
      rw [this, hi, hj]
  · rw [List.length_map, List.length_range]; omega

/-- The pairs, by k. -/
theorem Met.pairs {pb ps qb qs n m X DX Y DY f t : Int} (hz : Met pb ps qb qs n m X DX Y DY f t false true) :
    ∀ i j, Pair pb ps qb qs n m i j ↔ ∃ k, f ≤ k ∧ k ≤ t ∧ i = X + DX * k ∧ j = Y + DY * k := by
  obtain ⟨hft, hk, hs, hz'⟩ := hz.some rfl rfl
  intro i j
  constructor
  · intro h
    unfold Pair at h
    obtain ⟨k, hi, hj⟩ := hs.all hz' rfl (i := i) (j := j) (by rw [Int.neg_mul]; omega)
    have := (hk k).mpr (by omega)
    exact ⟨k, this.1, this.2, hi, hj⟩
  · rintro ⟨k, k1, k2, rfl, rfl⟩
    have h1 := (hk k).mp ⟨k1, k2⟩
    have h2 := hs.each hz' rfl k
    rw [Int.neg_mul] at h2
    exact ⟨h1.1, h1.2.1, h1.2.2.1, h1.2.2.2, by omega⟩
theorem Sol.moves {a b c X DX Y DY : Int} (h : Sol a b c X DX Y DY true) (hz : a ≠ 0 ∨ b ≠ 0) : DX ≠ 0 ∨ DY ≠ 0 := by
  by_cases hb : b = 0
  · have := h.line hb (by omega) rfl; omega
  · have := h.least hb rfl; omega

theorem Count_eval {pb ps qb qs n m : Int} (hg : Good pb ps qb qs [n, m]) (hn : 0 ≤ n) (hm : 0 ≤ m) :
    ∃ c, (∀ k, 2147483800 < k → affine_Count.f k pb ps qb qs n m = some (c, 0)) ∧ CountOf pb ps qb qs n m c := by
  obtain ⟨b1, b2, b3, b4, b5, b6⟩ := hg.two
  obtain ⟨X, DX, Y, DY, f, t, full, ok, he, hz, z1, z2, z3, z4⟩ := meet_eval b1 b2 b3 b4 b5 b6
  have run : ∀ k, 2147483800 < k → affine_Count.f k pb ps qb qs n m = if ok = true then (if full = true then some (wrap64 (n * m), 0) else some (wrap64 (wrap64 (t - f) + 1), 0)) else some (0, 0) := by
    intro k hk
    unfold affine_Count.f
    rw [lines_eval (by simp) (by omega)]
    simp only [Option.bind_some]
    have : Good pb ps qb qs [n, m] := hg
    unfold Good at this
    rw [this, if_pos rfl, if_pos rfl, if_neg (by omega)]
    obtain ⟨k, rfl⟩ : ∃ q, k = q + 3 := ⟨k - 3, by omega⟩
    simp only [affine_Count.j0, affine_Count.j1]
    rw [if_neg (by simp; omega), if_pos trivial, he _ (by omega)]
    rfl
  cases ho : ok with
  | false =>
    subst ho
    exact ⟨0, fun k hk => by rw [run k hk]; rfl, count_none (hz.no rfl)⟩
  | true =>
    subst ho
    cases hw : full with
    | true =>
      subst hw
      have h1 := hz.every rfl rfl
      refine ⟨n * m, fun k hk => ?_, count_all hn hm fun i j => ?_⟩
      · have := mul_abs (a := n) (b := m) b5 b6
        rw [run k hk, if_pos rfl, if_pos rfl, w64 (by omega)]
      · unfold Pair
        rw [h1.1, h1.2.1]; omega
    | false =>
      subst hw
      obtain ⟨hft, hk, hs, hz'⟩ := hz.some rfl rfl
      refine ⟨t - f + 1, fun k hk => ?_, count_line hft (hs.moves hz') hz.pairs⟩
      have := hz.size
      rw [run k hk, if_pos rfl, if_neg (by simp), w64 (n := t - f) (by omega), w64 (by omega)]
theorem Count_limit {pb ps qb qs n m : Int} (hg : ¬ Good pb ps qb qs [n, m]) {k : Nat} (hk : 2147483800 < k) : affine_Count.f k pb ps qb qs n m = some (0, 3) := by
  unfold affine_Count.f
  rw [lines_eval (by simp) (by omega)]
  simp only [Option.bind_some]
  unfold Good at hg
  rw [if_neg hg, if_neg (by omega)]
  obtain ⟨k, rfl⟩ : ∃ q, k = q + 3 := ⟨k - 3, by omega⟩
  simp only [affine_Count.j0, affine_Count.j1]
  rfl
theorem Count_arg {pb ps qb qs n m : Int} (hg : Good pb ps qb qs [n, m]) (hn : n < 0 ∨ m < 0) {k : Nat} (hk : 2147483800 < k) : affine_Count.f k pb ps qb qs n m = some (0, 2) := by
  unfold affine_Count.f
  rw [lines_eval (by simp) (by omega)]
  simp only [Option.bind_some]
  unfold Good at hg
  rw [hg, if_pos rfl, if_pos rfl]
  obtain ⟨k, rfl⟩ : ∃ q, k = q + 3 := ⟨k - 3, by omega⟩
  by_cases h : n < 0
  · rw [if_pos h]
    simp only [affine_Count.j0, affine_Count.j1]
    rfl
  · rw [if_neg h]
    have : decide (m < 0) = true := by simp; omega
    rw [this]
    simp only [affine_Count.j0, affine_Count.j1]
    rfl
/-- The outer Solve. -/
theorem Solve_eval {a b c : Int} (ha : a.natAbs ≤ 2147483648) (hb : b.natAbs ≤ 2147483648) (hc : c.natAbs ≤ 2147483648) :
    ∃ X DX Y DY ok, (∀ k, 2147483800 < k → affine_Solve.f k a b c = some (X, DX, Y, DY, ok, 0)) ∧ Sol a b c X DX Y DY ok := by
  obtain ⟨X, DX, Y, DY, ok, he, hs⟩ := solve_eval ha hb (by omega : c.natAbs ≤ 8589934592)
  refine ⟨X, DX, Y, DY, ok, fun k hk => ?_, hs⟩
  unfold affine_Solve.f
  have h1 : [a, b, c].all inb = true := by simp [inb]; omega
  rw [small_eval (by simp) (by omega), h1]
  simp only [Option.bind_some]
  rw [if_pos trivial, he k (by omega)]
  rfl
theorem Solve_limit {a b c : Int} (h : ¬ (a.natAbs ≤ 2147483648 ∧ b.natAbs ≤ 2147483648 ∧ c.natAbs ≤ 2147483648)) {k : Nat} (hk : 2147483800 < k) : affine_Solve.f k a b c = some (0, 0, 0, 0, false, 3) := by
  unfold affine_Solve.f
  have h1 : [a, b, c].all inb = false := by simp [inb]; omega
  rw [small_eval (by simp) (by omega), h1]
  rfl
theorem Gcd_eval {a b : Int} (ha : a.natAbs ≤ 2147483648) (hb : b.natAbs ≤ 2147483648) :
    ∃ g x y, (∀ k, 2147483800 < k → affine_Gcd.f k a b = some (g, x, y, 0)) ∧ GcdOf a b g x y := by
  obtain ⟨g, x, y, he, hs⟩ := gcdOf_eval ha hb
  refine ⟨g, x, y, fun k hk => ?_, hs⟩
  unfold affine_Gcd.f
  have h1 : [a, b].all inb = true := by simp [inb]; omega
  rw [small_eval (by simp) (by omega), h1]
  simp only [Option.bind_some]
  rw [if_pos trivial, he k (by omega)]
  rfl
theorem Gcd_limit {a b : Int} (h : ¬ (a.natAbs ≤ 2147483648 ∧ b.natAbs ≤ 2147483648)) {k : Nat} (hk : 2147483800 < k) : affine_Gcd.f k a b = some (0, 0, 0, 3) := by
  unfold affine_Gcd.f
  have h1 : [a, b].all inb = false := by simp [inb]; omega
  rw [small_eval (by simp) (by omega), h1]
  rfl

theorem alive_eval {k : Nat} (hk : 2147483800 < k) : biremelaw14_alive.f k = some true := by
  obtain ⟨X, DX, Y, DY, ok, h1, s1⟩ := Solve_eval (a := 2) (b := -3) (c := 1) (by decide) (by decide) (by decide)
  have t1 : Sol 2 (-3) 1 2 3 1 2 true := ⟨fun h => by omega, fun _ h => (by cases h), fun _ _ => by decide, fun h => by omega, fun _ _ => ⟨by decide, by decide, by decide, by decide, 1, -1, -1, ⟨by decide, by decide, by decide, by decide⟩, by decide⟩⟩
  obtain ⟨rfl, rfl, rfl, rfl, rfl⟩ := s1.unique t1
  obtain ⟨i, j, ok2, h2, s2⟩ := Meet_eval (pb := 0) (ps := 2) (qb := 1) (qs := 3) (n := 10) (m := 10) (by decide) (by decide) (by decide)
  have t2 : MeetOf 0 2 1 3 10 10 2 1 true := ⟨fun _ => ⟨by unfold Pair; decide, fun i' j' h => by unfold Pair at h; omega⟩, fun h => (by cases h)⟩
  obtain ⟨rfl, rfl, rfl⟩ := s2.unique t2
  obtain ⟨d, ok3, h3, s3⟩ := Ahead_eval (pb := 0) (ps := 2) (qb := 1) (qs := 3) (n := 10) (least := 0) (by decide) (by decide)
  have t3 : AheadOf 0 2 1 3 10 0 0 false := ⟨fun h => (by cases h), fun _ => ⟨rfl, fun i j h => by unfold Pair at h; omega⟩⟩
  obtain ⟨rfl, rfl⟩ := s3.unique t3
  obtain ⟨d4, ok4, h4, s4⟩ := Behind_eval (pb := 0) (ps := 2) (qb := 1) (qs := 3) (n := 10) (by decide) (by decide)
  have t4 : BehindOf 0 2 1 3 10 (-1) true := ⟨fun _ => ⟨⟨2, by unfold Pair; decide⟩, fun i' j' h => by unfold Pair at h; omega⟩, fun h => (by cases h)⟩
  obtain ⟨rfl, rfl⟩ := s4.unique t4
  unfold biremelaw14_alive.f
  rw [h1 k hk]
  simp only [Option.bind_some]
  rw [h2 k hk]
  simp only [Option.bind_some]
  rw [h3 k hk]
  simp only [Option.bind_some]
  rw [h4 k hk]
  rfl

end Go.Proofs.Ytiedehjmhlgicaa.PAll.Aff
