/- The iterator that All hands back goes through the tokens of its text, each with its offset, for every loop body that leaves the iterator's own cells alone. -/
import Derived.Test.YtpccakfbmbkmlaaP3
import Derived.RangeFuncNested
import Derived.RangeFuncBound
import Derived.RangeFuncCalls
import Derived.RangeFuncLeaves
import Derived.RangeFuncBox
import Derived.Shelf.Abstract
import Derived.OwnWalkIn
import Derived.TacticsInMore
import Derived.LoopNIn
import Derived.LoopIn
import Derived.Maps.AppendAt
import Derived.Lib.Hide
namespace Go.Proofs.Ytpccakfbmbkmlaa.PAll
open Go.RowKit Go.Proofs.YtpccakfbmbkmlaaW.PrintWords Go.Proofs.YtpccakfbmbkmlaaW.PrintLast Go.Proofs.YtpccakfbmbkmlaaW.PrintMore
set_option linter.unusedVariables false
set_option linter.unusedSimpArgs false
open Tk (B)
attribute [local go_sem] Oper.semAt_some
def toS (t : Tk.Tok) : S31 := ⟨t.k, ba t.t, (t.a : Int)⟩
/-- What the iterator hands over: the tokens, and behind them one of kind 0, where none begins. -/
def seqOf (l : B) (a : Nat) : List S31 := (Tk.scan l a).1.map toS ++ (match (Tk.scan l a).2 with | none => [] | some e => [⟨0, ba [], (e : Int)⟩])
theorem seqOf_nil {l : B} {a : Nat} (h : Tk.skip l = []) : seqOf l a = [] := by unfold seqOf; rw [Tk.scan_nil h]; rfl
theorem seqOf_bad {l : B} {a : Nat} (h : Tk.skip l ≠ []) (h2 : (Tk.next (Tk.skip l)).2 = 0) : seqOf l a = [⟨0, ba [], ((a + (l.length - (Tk.skip l).length) : Nat) : Int)⟩] := by unfold seqOf; rw [Tk.scan_bad h h2]; rfl
theorem seqOf_tok {l : B} {a : Nat} (h : Tk.skip l ≠ []) (h2 : (Tk.next (Tk.skip l)).2 ≠ 0) :
    seqOf l a = ⟨(Tk.next (Tk.skip l)).1, ba ((Tk.skip l).take (Tk.next (Tk.skip l)).2), ((a + (l.length - (Tk.skip l).length) : Nat) : Int)⟩ :: seqOf ((Tk.skip l).drop (Tk.next (Tk.skip l)).2) (a + (l.length - (Tk.skip l).length) + (Tk.next (Tk.skip l)).2) := by
  unfold seqOf; rw [Tk.scan_tok h h2]; rfl
/-- Blanks and remarks ahead change nothing but where it begins. -/
theorem seqOf_skip (l : B) (a : Nat) : seqOf (Tk.skip l) (a + (l.length - (Tk.skip l).length)) = seqOf l a := by
  have hs := Tk.skip_skip l
  by_cases h : Tk.skip l = []
  · rw [seqOf_nil h, seqOf_nil (by rw [hs]; exact h)]
  · by_cases h2 : (Tk.next (Tk.skip l)).2 = 0
    · rw [seqOf_bad h h2, seqOf_bad (by rw [hs]; exact h) (by rw [hs]; exact h2), hs, Nat.sub_self, Nat.add_zero]
    · rw [seqOf_tok h h2, seqOf_tok (by rw [hs]; exact h) (by rw [hs]; exact h2), hs, Nat.sub_self, Nat.add_zero]
def encS (x : S31) : Array Value := #[.agg #[.int .i64 x.f0, .string x.f1, .int .i64 x.f2]]
/-- The list that is collected (its variable is block Bo) lies in block b. -/
def OutAt (Bo : Nat) (W : World) (b : Nat) : Prop := ∃ o c n cap, W.cell? ⟨Bo, 0, none⟩ = some (.slice (some ⟨b, o, c⟩) n cap)
def OutOk (Bo : Nat) (W : World) : Prop := Bo < W.heap.size ∧ ∀ b, OutAt Bo W b → b < W.heap.size
/-- What a round keeps: all cells but those of the blocks from h to Bo and of the list that is collected. -/
def KpL (h Bo : Nat) (W W' : World) : Prop := OutOk Bo W → (OutOk Bo W' ∧ W.heap.size ≤ W'.heap.size ∧
  (∀ b cs t fr, (b < h ∨ Bo < b) → ¬ OutAt Bo W b → W.heap[b]? = some (.cells cs t fr) → W'.heap[b]? = W.heap[b]?) ∧ (∀ b, OutAt Bo W' b → OutAt Bo W b ∨ W.heap.size ≤ b))
theorem KpL.trans {h Bo : Nat} {A B C : World} (h1 : KpL h Bo A B) (h2 : KpL h Bo B C) : KpL h Bo A C := by
  intro hA
  obtain ⟨o1, s1, k1, a1⟩ := h1 hA
  obtain ⟨o2, s2, k2, a2⟩ := h2 o1
  refine ⟨o2, by omega, ?_, ?_⟩
  · intro b cs t fr hb hn hc
    have e1 := k1 b cs t fr hb hn hc
    have hlt : b < A.heap.size := (Array.getElem?_eq_some_iff.1 hc).1
    have hn2 : ¬ OutAt Bo B b := by
      intro ho
      rcases a1 b ho with h' | h'
      · exact hn h'
      · omega
    rw [k2 b cs t fr hb hn2 (e1.trans hc), e1]
  · intro b ho
    rcases a2 b ho with h' | h'
    · exact a1 b h'
    · exact .inr (by omega)
theorem OutAt.of_block {Bo : Nat} {W W' : World} (h : W'.heap[Bo]? = W.heap[Bo]?) (b : Nat) : OutAt Bo W' b ↔ OutAt Bo W b := by
  unfold OutAt
  have : W'.cell? ⟨Bo, 0, none⟩ = W.cell? ⟨Bo, 0, none⟩ := by simp [World.cell?, h]
  rw [this]
theorem KpL.bk {h Bo : Nat} (W : World) (l : Nat) (o o' : Obj) (hl : Bo < l) (hh : W.heap[l]? = some o) (ho : o.isCells = false) (hw : o.isWalk = false) : KpL h Bo W (W.putObj l o') := by
  intro hA
  have hk : ∀ b, b ≠ l → (W.putObj l o').heap[b]? = W.heap[b]? := fun b hb => by
    show (W.heap.setIfInBounds l o')[b]? = _
    rw [Array.getElem?_setIfInBounds_ne (Ne.symm hb)]
  have hsz : (W.putObj l o').heap.size = W.heap.size := by show (W.heap.setIfInBounds l o').size = _; simp
  have hO := OutAt.of_block (W := W) (W' := W.putObj l o') (hk Bo (by omega))
  refine ⟨⟨by rw [hsz]; exact hA.1, fun b hb => by rw [hsz]; exact hA.2 b ((hO b).mp hb)⟩, by rw [hsz]; exact Nat.le_refl _, ?_, fun b hb => .inl ((hO b).mp hb)⟩
  intro b cs t fr hb hn hc
  refine hk b ?_
  rintro rfl
  rw [hc] at hh
  cases hh
  cases ho
/-- New blocks, and nothing that was there before. -/
theorem OutOk.below {Bo : Nat} {W W' : World} (h : OutOk Bo W) (hb : Below W.heap.size W W') : OutOk Bo W' := by
  have hsz := hb.size
  have hO := OutAt.of_block (W := W) (W' := W') (hb.block Bo h.1)
  exact ⟨by have := h.1; omega, fun b hb' => by have := h.2 b ((hO b).mp hb'); omega⟩

theorem abides_below {β : Type} {B : Nat} {J : β → World → Prop} (h : AbidesFrom B J) {x : β} {W W' : World} (hj : J x W) (hb : Below W.heap.size W W') : J x W' :=
  h x W W' none hj ⟨hb.os, hb.tape, hb.output, hb.size, fun k hk _ => hb.block k hk⟩ (fun r e => by cases e)
theorem cell_box {W : World} {B : Nat} {t : TypeId} {v : Value} (h : W.heap[B]? = some (.cells #[v] t (0, 0))) : W.cell? ⟨B, 0, none⟩ = some v := by simp [World.cell?, h]
set_option maxRecDepth 100000 in
set_option maxHeartbeats 2000000 in
/-- The iterator itself. -/
theorem all1_in (n : Nat) (hn : 1 ≤ n) (l Bo h : Nat) (s : B) (hs : s.length < 4611686018427387904) (J Jx : List S31 → World → Prop) (W : World) (hJ : AbidesFrom W.heap.size J) (hJx : AbidesFrom W.heap.size Jx)
    (hY : ∀ pre x W1, J pre W1 → pre.length < (seqOf s 0).length → YieldAt Fence.wide (n - 1) Try.prog l (encS x) W1 fun e W' =>
      (e = .returned (.bool true) ∧ J (pre ++ [x]) W' ∧ KpL h Bo W1 W') ∨ (e = .returned (.bool false) ∧ Jx (pre ++ [x]) W'))
    (hO : OutOk Bo W) (hBs : W.heap[Bo + 1]? = some (.cells #[.string (ba s)] 9 (0, 0))) (hNo : ¬ OutAt Bo W (Bo + 1)) (h0 : J [] W) :
    CallsIn Fence.wide n Try.prog 44 #[.func (.yield l) #[] #[], .pointer (some ⟨Bo + 1, 0, none⟩)] W fun e W' => (∃ v, e = .returned v) ∧
      ((∃ ys, ys = seqOf s 0 ∧ J ys W') ∨ (∃ pre, pre <+: seqOf s 0 ∧ Jx pre W')) := by
  obtain ⟨k0, hb0⟩ := (blank_ev s hs).rounds
  have hc0 := cell_box hBs
  refine callsIn_of_wp Try.func44 rfl trivial ?_ rfl
  simp only [Try.ntmps44, List.size_toArray, List.length_cons, List.length_nil, Nat.reduceAdd, Nat.reduceSub, Array.replicate_succ, Array.replicate_zero, List.push_toArray, List.append_toArray, List.nil_append, List.cons_append]
  gi_wp2_with (refine ⟨trivial, ?_⟩; gi_at_call 45; refine (callsIn_wide.2 (token_blank.calls k0 _ _ _ hb0)).mono ?_; rintro e w1 ⟨rfl, hb1⟩)
  have hlt0 : Bo + 1 < W.heap.size := (Array.getElem?_eq_some_iff.1 hBs).1
  have hJ1 := abides_below hJ h0 hb1
  have hO1 := hO.below hb1
  have hBs1 := (hb1.block (Bo + 1) hlt0).trans hBs
  have hNo1 : ¬ OutAt Bo w1 (Bo + 1) := fun e => hNo ((OutAt.of_block (hb1.block Bo (by omega)) _).mp e)
  have hsk := Tk.skip_le s
  have hdr : s.drop (s.length - (Tk.skip s).length) = Tk.skip s := (Tk.skip_drop s).symm
  clear hc0 hb0 h0
  gi_loopw [3] (fun at_ wr => ∃ (pre : List S31) (i : Nat), at_ = .int .i64 (i : Int) ∧ i ≤ s.length ∧ Tk.skip (s.drop i) = s.drop i ∧ seqOf s 0 = pre ++ seqOf (s.drop i) i ∧ J pre wr ∧ OutOk Bo wr ∧ wr.heap[Bo + 1]? = some (.cells #[.string (ba s)] 9 (0, 0)) ∧ ¬ OutAt Bo wr (Bo + 1))
    (fun at_ _ => s.length - (intOf at_).toNat)
  case atStart =>
    refine ⟨[], s.length - (Tk.skip s).length, rfl, by omega, by rw [hdr]; exact Tk.skip_skip s, ?_, hJ1, hO1, hBs1, hNo1⟩
    rw [hdr, List.nil_append]
    have := seqOf_skip s 0
    rw [Nat.zero_add] at this
    exact this.symm
  case round =>
    obtain ⟨pre, i, rfl, hi, hu, hseq, hJp, hOr, hBr, hNr⟩ := hrel
    have hcr := cell_box hBr
    by_cases hlt : i < s.length
    · have hul : (s.drop i).length = s.length - i := List.length_drop
      have hune : s.drop i ≠ [] := by intro e; rw [e] at hul; simp at hul; omega
      obtain ⟨k1, hf1⟩ := (first_ev (s.drop i) (by omega) hune).rounds
      have hex : (ba s).extract i (ba s).size = ba (s.drop i) := ba_from s i
      have hsz : (ba s).size = s.length := rfl
      rw [← hex] at hf1
      gi_wp2_with (refine ⟨trivial, ?_⟩; gi_at_call 46; refine (callsIn_wide.2 (token_first.calls k1 _ _ _ _ _ hf1)).mono ?_; rintro e w2 ⟨rfl, hb2⟩)
      -- the round's token, and the world in which it is handed over
      obtain ⟨kd, nn, hkn⟩ : ∃ kd nn, Tk.next (s.drop i) = (kd, nn) := ⟨_, _, rfl⟩
      have hkind := Tk.next_kind (s.drop i)
      have hnle := Tk.next_le (s.drop i)
      rw [hkn] at hkind hnle
      dsimp only at hkind hnle
      simp only [hkn]
      obtain ⟨tx, htx⟩ : ∃ tx, ba ((s.drop i).take nn) = tx := ⟨_, rfl⟩
      rw [htx]
      have hJ2 : J pre (w2.alloc (.cells #[.int .i64 kd, .string (tx), .int .i64 (i : Int)] 31)) :=
        abides_below hJ (abides_below hJ hJp hb2) ((Below.refl _ _).alloc (Nat.le_refl _) _)
      have hO2 := hOr.below hb2
      have hO3 : OutOk Bo (w2.alloc (.cells #[.int .i64 kd, .string (tx), .int .i64 (i : Int)] 31)) := hO2.below ((Below.refl _ _).alloc (Nat.le_refl _) _)
      have hBlt : Bo + 1 < wr.heap.size := (Array.getElem?_eq_some_iff.1 hBr).1
      have hsz2 := hb2.size
      have hBs3 : (w2.alloc (.cells #[.int .i64 kd, .string (tx), .int .i64 (i : Int)] 31)).heap[Bo + 1]? = some (.cells #[.string (ba s)] 9 (0, 0)) :=
        ((((Below.refl w2.heap.size w2).alloc (Nat.le_refl _) _).block (Bo + 1) (by omega)).trans (hb2.block (Bo + 1) hBlt)).trans hBr
      have hbx : (w2.alloc (.cells #[.int .i64 kd, .string (tx), .int .i64 (i : Int)] 31)).heap[w2.heap.size]? = some (.cells #[.int .i64 kd, .string (tx), .int .i64 (i : Int)] 31 (0, 0)) := World.alloc_heap_new w2 _
      have eB2 : (w2.alloc (.cells #[.int .i64 kd, .string (tx), .int .i64 (i : Int)] 31)).heap[Bo]? = wr.heap[Bo]? :=
        (((Below.refl w2.heap.size w2).alloc (Nat.le_refl _) _).block Bo (by omega)).trans (hb2.block Bo (by omega))
      have hN3 : ¬ OutAt Bo (w2.alloc (.cells #[.int .i64 kd, .string (tx), .int .i64 (i : Int)] 31)) (Bo + 1) := fun e => hNr ((OutAt.of_block eB2 _).mp e)
      have hN4 : ¬ OutAt Bo (w2.alloc (.cells #[.int .i64 kd, .string (tx), .int .i64 (i : Int)] 31)) w2.heap.size := fun e => by
        have := hOr.2 _ ((OutAt.of_block eB2 _).mp e)
        omega
      obtain ⟨W1, hW1⟩ : ∃ W1, w2.alloc (.cells #[.int .i64 kd, .string (tx), .int .i64 (i : Int)] 31) = W1 := ⟨_, rfl⟩
      rw [hW1] at hJ2 hO3 hBs3 hbx hN3 hN4 ⊢
      have hrest : seqOf (s.drop i) i = if nn = 0 then [⟨0, ba [], (i : Int)⟩] else ⟨kd, tx, (i : Int)⟩ :: seqOf ((s.drop i).drop nn) (i + nn) := by
        rw [← htx]
        by_cases hz : nn = 0
        · rw [if_pos hz, seqOf_bad (by rw [hu]; exact hune) (by rw [hu, hkn]; exact hz), hu, Nat.sub_self, Nat.add_zero]
        · rw [if_neg hz, seqOf_tok (by rw [hu]; exact hune) (by rw [hu, hkn]; exact hz), hu, hkn, Nat.sub_self, Nat.add_zero]
      have hhead : ∃ tl, seqOf (s.drop i) i = ⟨kd, tx, (i : Int)⟩ :: tl := by
        rw [hrest]
        by_cases hz : nn = 0
        · rw [if_pos hz]
          rcases hkind with ⟨_, e⟩ | ⟨e, _⟩
          · rw [e, ← htx, hz]; exact ⟨[], rfl⟩
          · omega
        · rw [if_neg hz]; exact ⟨_, rfl⟩
      obtain ⟨tl, htl⟩ := hhead
      obtain ⟨fn, tmps, assign, body, hy, hR⟩ := hY pre ⟨kd, tx, (i : Int)⟩ W1 hJ2 (by rw [hseq, htl]; simp)
      dsimp only [encS] at hy
      have HKD := Lib.hid hkind
      have HNL := Lib.hid hnle
      have HRS := Lib.hid hrest
      have HTL := Lib.hid htl
      have HTX := Lib.hid htx
      have HKN := Lib.hid hkn
      have HSQ := Lib.hid hseq
      have HU := Lib.hid hu
      clear hkind hnle hrest htl htx hkn hseq hu
      gi_wp2
      rw [hy]
      gi_wp2
      refine hR.mono ?_
      rintro e W3 (⟨rfl, hJ3, hk3⟩ | ⟨rfl, hJx3⟩)
      · obtain ⟨hO4, hs4, hkp4, ha4⟩ := hk3 hO3
        have hBs4 := (hkp4 (Bo + 1) _ _ _ (.inr (by omega)) hN3 hBs3).trans hBs3
        have hbx4 := (hkp4 w2.heap.size _ _ _ (.inr (by have := hO2.1; omega)) hN4 hbx).trans hbx
        have hc40 : W3.cell? ⟨w2.heap.size, 0, none⟩ = some (.int .i64 kd) := by simp [World.cell?, hbx4]
        have hc41 : W3.cell? ⟨w2.heap.size, 1, none⟩ = some (.string (tx)) := by simp [World.cell?, hbx4]
        have hcs4 := cell_box hBs4
        have hN5 : ¬ OutAt Bo W3 (Bo + 1) := fun e => by
          rcases ha4 _ e with h' | h'
          · exact hN3 h'
          · have : W1.heap.size ≤ Bo + 1 := h'
            have h9 : Bo + 1 < W1.heap.size := (Array.getElem?_eq_some_iff.1 hBs3).1
            omega
        have hkind := HKD.out
        have hnle := HNL.out
        clear HKD HNL
        by_cases hz : nn = 0
        · have hk0 : kd = 0 := by
            rcases hkind with ⟨_, e⟩ | ⟨e, _⟩
            · exact e
            · omega
          subst hk0
          subst hz
          have hall : seqOf s 0 = pre ++ [⟨0, tx, (i : Int)⟩] := by rw [HSQ.out, HRS.out, if_pos rfl, ← HTX.out]; rfl
          have HAL := Lib.hid hall
          clear hkind hnle hf1 hul hsz2 hs4 hall
          gi_wp2
          refine bodyPost_ret (results_none rfl _ _ _) rfl ?_
          exact ⟨⟨_, rfl⟩, .inl ⟨_, HAL.out.symm, hJ3⟩⟩
        · have hk0 : (kd == 0) = false := by
            rcases hkind with ⟨e, _⟩ | ⟨_, e, _⟩
            · exact absurd e hz
            · rw [beq_eq_false_iff_ne]; omega
          have htk : tx.size = nn := by rw [← HTX.out, ba_size, List.length_take]; omega
          have hw1 : IntKind.i64.wrap ((i : Int) + (nn : Int)) = ((i + nn : Nat) : Int) := by rw [i64_w, w64 (by omega) (by omega)]; rfl
          obtain ⟨k2, hb2'⟩ := (blank_ev (s.drop (i + nn)) (by rw [List.length_drop]; omega)).rounds
          have hex2 : (ba s).extract (i + nn) (ba s).size = ba (s.drop (i + nn)) := ba_from s (i + nn)
          rw [← hex2] at hb2'
          gi_wp2_with (refine ⟨trivial, ?_⟩; gi_at_call 45; refine (callsIn_wide.2 (token_blank.calls k2 _ _ _ hb2')).mono ?_; rintro e w5 ⟨rfl, hb5⟩)
          have hvl : (s.drop (i + nn)).length = s.length - (i + nn) := List.length_drop
          have hsv := Tk.skip_le (s.drop (i + nn))
          have hdv : s.drop (i + nn + (s.length - (i + nn) - (Tk.skip (s.drop (i + nn))).length)) = Tk.skip (s.drop (i + nn)) := by
            rw [← List.drop_drop, ← hvl]; exact (Tk.skip_drop _).symm
          have hsq : seqOf s 0 = (pre ++ [⟨kd, tx, (i : Int)⟩]) ++ seqOf (Tk.skip (s.drop (i + nn))) (i + nn + (s.length - (i + nn) - (Tk.skip (s.drop (i + nn))).length)) := by
            rw [HSQ.out, HRS.out, if_neg hz, List.drop_drop, List.append_assoc, ← hvl, seqOf_skip]
            rfl
          have hlt3 : Bo + 1 < W3.heap.size := (Array.getElem?_eq_some_iff.1 hBs4).1
          have hB5 : w5.heap[Bo]? = W3.heap[Bo]? := hb5.block Bo (by omega)
          go_roundw
          case rel =>
            refine ⟨pre ++ [⟨kd, tx, (i : Int)⟩], i + nn + (s.length - (i + nn) - (Tk.skip (s.drop (i + nn))).length), by simp, by omega, by rw [hdv]; exact Tk.skip_skip _, by rw [hdv]; exact hsq,
              abides_below hJ hJ3 hb5, hO4.below hb5, (hb5.block (Bo + 1) hlt3).trans hBs4, fun e => hN5 ((OutAt.of_block hB5 _).mp e)⟩
          case measure => simp [intOf]; omega
      · gi_wp2
        refine bodyPost_ret (results_none rfl _ _ _) rfl ?_
        exact ⟨⟨_, rfl⟩, .inr ⟨_, ⟨tl, by rw [HSQ.out, HTL.out]; simp⟩, hJx3⟩⟩
    · have hi2 : i = s.length := by omega
      have hall : seqOf s 0 = pre := by
        rw [hseq, seqOf_nil (by rw [hu, List.drop_eq_nil_of_le (by omega)]), List.append_nil]
      have hsz : (ba s).size = s.length := rfl
      have HAL := Lib.hid hall
      have HLT : ¬ ((i : Int) < (s.length : Int)) := by omega
      clear hseq hall hu hi hi2 hlt
      gi_wp2
      go_end0
      exact ⟨⟨_, rfl⟩, .inl (by rw [HAL.out]; exact hJp)⟩
end Go.Proofs.Ytpccakfbmbkmlaa.PAll
