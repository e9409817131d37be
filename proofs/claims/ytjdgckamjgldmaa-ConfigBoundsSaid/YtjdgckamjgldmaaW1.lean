/- Walks: names that may be asked; names held against one another; the wire form. -/
import Derived.Test.YtjdgckamjgldmaaBase
namespace Go.Proofs.Ytjdgckamjgldmaa
open Go.RowKit Go.Eng

theorem getElem_at {α : Type} {l : List α} {k : Nat} (h : k < l.length) : l[k]? = some l[k] := List.getElem?_eq_getElem h
-- signet/signethelp.LightName
theorem light34 (v : Value) (l : List ByteArray) (w : World) (h : Nm w v l) :
    Runs Try.prog 34 #[v] w fun r w' => r = .bool (lightN l) ∧ w = w' := by
  obtain ⟨A, c, hv, -⟩ := id h
  rw [List.length_map] at hv
  subst hv
  refine enter (N := 29) (args := [_]) Try.func34 rfl rfl (Nat.le_of_ble_eq_true rfl) ?_
  refine CW.seq ?_
  refine CW.region ?_
  refine WL.v (Val.assign rfl rfl) ?_ -- d2
  refine WL.nil ?_
  refine Ends.next ?_
  refine CW.seq ?_
  refine CW.seq ?_
  refine CW.region ?_
  refine WL.v (Val.move rfl rfl) ?_ -- d5
  refine WL.v (Val.lenSl rfl Try.underlying23 rfl) ?_ -- d6
  refine WL.v (Val.gtr rfl rfl rfl) ?_ -- d7
  refine WL.nil ?_
  refine Ends.next ?_
  refine CW.condD rfl (fun hc0 => ?_) (fun hc0 => ?_)
  · -- yes
    have hres : lightN l = false := by simp [lightN]; intro h1; omega
    refine CW.seq ?_
    refine CW.region ?_
    refine WL.v (Val.assign rfl rfl) ?_ -- d2
    refine WL.nil ?_
    refine Ends.next ?_
    refine CW.ret ?_
    refine Ends.seqr ?_
    exact Ends.ret1 rfl rfl ⟨by rw [hres], rfl⟩
  · -- no
    refine CW.skip ?_
    refine Ends.next ?_
    refine CW.seq ?_
    refine CW.region ?_
    refine WL.v (Val.assign rfl rfl) ?_ -- d3
    refine WL.nil ?_
    refine Ends.next ?_
    refine CW.seq ?_
    refine CW.seq ?_
    refine CW.region ?_
    refine WL.v (Val.assign rfl rfl) ?_ -- d4
    refine WL.nil ?_
    refine Ends.next ?_
    refine CW.block ?_
    refine CW.loop (α := Nat) (fun k => [(0, .slice A l.length c), (3, .int .i64 (sumS (l.take k))), (4, .int .i64 k)]) (fun k w1 => k ≤ l.length ∧ (∀ s ∈ l.take k, s.size ≤ 300) ∧ w = w1) (fun k => l.length - k) 0 ⟨rfl, rfl, rfl, trivial⟩ ⟨Nat.zero_le _, by simp, rfl⟩ ?_
    rintro k _ ⟨hk, hall, rfl⟩
    refine CW.seq ?_
    refine CW.seq ?_
    refine CW.region ?_
    refine WL.v (Val.move rfl rfl) ?_ -- d8
    refine WL.v (Val.move rfl rfl) ?_ -- d9
    refine WL.v (Val.lenSl rfl Try.underlying23 rfl) ?_ -- d10
    refine WL.v (Val.lss rfl rfl rfl) ?_ -- d11
    refine WL.nil ?_
    refine Ends.next ?_
    refine CW.condD rfl (fun hc1 => ?_) (fun hc1 => ?_)
    · -- yes
      have hlt : k < l.length := by omega
      have hst := sumS_take l k hlt
      have hbd := sumS_bound (l.take k) 300 hall
      have hln : (l.take k).length ≤ 200 := by rw [List.length_take]; omega
      refine CW.skip ?_
      refine Ends.next ?_
      refine CW.seq ?_
      refine CW.block ?_
      refine CW.seq ?_
      refine CW.seq ?_
      refine CW.region ?_
      refine WL.v (Val.move rfl rfl) ?_ -- d14
      refine WL.v (Val.move rfl rfl) ?_ -- d15
      refine WL.elem ty23 h rfl rfl rfl rfl (by omega) (v := sv l[k]) (by simp [hlt]) (fun _ => ?_)
      refine WL.v (Val.lenStr rfl Try.underlying9 rfl) ?_ -- d18
      refine WL.v (Val.gtr rfl rfl rfl) ?_ -- d19
      refine WL.nil ?_
      refine Ends.next ?_
      refine CW.condD rfl (fun hc2 => ?_) (fun hc2 => ?_)
      · -- yes
        have hres : lightN l = false := by
          have : ¬ ∀ s ∈ l, s.size ≤ 300 := fun hh => by have := hh l[k] (by simp); omega
          simp only [lightN, Bool.and_eq_false_iff]
          left; right
          simpa using this
        refine CW.seq ?_
        refine CW.region ?_
        refine WL.v (Val.assign rfl rfl) ?_ -- d2
        refine WL.nil ?_
        refine Ends.next ?_
        refine CW.ret ?_
        refine Ends.seqr ?_
        refine Ends.blkr ?_
        refine Ends.seqr ?_
        refine Ends.seqr ?_
        refine Ends.blkr ?_
        refine Ends.seqr ?_
        exact Ends.ret1 rfl rfl ⟨by rw [hres], rfl⟩
      · -- no
        refine CW.skip ?_
        refine Ends.next ?_
        refine CW.region ?_
        refine WL.v (Val.move rfl rfl) ?_ -- d20
        refine WL.v (Val.move rfl rfl) ?_ -- d21
        refine WL.v (Val.move rfl rfl) ?_ -- d22
        refine WL.elem ty23 h rfl rfl rfl rfl (by omega) (v := sv l[k]) (by simp [hlt]) (fun _ => ?_)
        refine WL.v (Val.lenStr rfl Try.underlying9 rfl) ?_ -- d25
        refine WL.v (Val.add rfl rfl rfl ((sumS (l.take (k + 1)) : Nat) : Int) (i64_eq (by omega) (by omega))) ?_
        refine WL.v (Val.assign rfl rfl) ?_ -- d3
        refine WL.nil ?_
        refine Ends.blkn ?_
        refine Ends.next ?_
        refine CW.region ?_
        refine WL.v (Val.move rfl rfl) ?_ -- d12
        refine WL.v (Val.add rfl rfl rfl _ (IntWalk.i64_in _ (by omega))) ?_ -- d13
        refine WL.v (Val.assign rfl rfl) ?_ -- d4
        refine WL.nil ?_
        exact Ends.round (k + 1) (by omega) ⟨rfl, rfl, rfl, trivial⟩ ⟨hlt, by
          intro s hs
          rw [List.take_succ_eq_append_getElem hlt, List.mem_append, List.mem_singleton] at hs
          rcases hs with hs | rfl
          · exact hall s hs
          · omega, rfl⟩
    · -- no
      have hkl : k = l.length := by omega
      subst hkl
      rw [List.take_length] at hall
      refine CW.exit ?_
      refine Ends.seqx ?_
      refine Ends.seqx ?_
      refine Ends.blke ?_
      refine Ends.next ?_
      refine CW.seq ?_
      refine CW.region ?_
      refine WL.v (Val.move rfl rfl) ?_ -- d27
      refine WL.v (Val.leq rfl rfl rfl) ?_ -- d28
      refine WL.v (Val.assign rfl rfl) ?_ -- d2
      refine WL.nil ?_
      refine Ends.next ?_
      refine CW.ret ?_
      refine Ends.ret1 rfl rfl ⟨?_, rfl⟩
      congr 1
      rw [List.take_length]
      have h2 : (l.all fun s => decide (s.size ≤ 300)) = true := by simpa using hall
      simp only [lightN, h2, Bool.and_true]
      rw [show decide (l.length ≤ 200) = true from by simp; omega, Bool.true_and]
      exact decide_eq_decide.2 (by omega)
-- signet/signethelp.RightName
theorem right31 (v : Value) (l : List ByteArray) (w : World) (h : Nm w v l) :
    Runs Try.prog 31 #[v] w fun r w' => r = .bool (rightN l) ∧ w = w' := by
  obtain ⟨A, c, hv, -⟩ := id h
  rw [List.length_map] at hv
  subst hv
  refine enter (N := 37) (args := [_]) Try.func31 rfl rfl (Nat.le_of_ble_eq_true rfl) ?_
  refine CW.seq ?_
  refine CW.region ?_
  refine WL.v (Val.assign rfl rfl) ?_ -- d2
  refine WL.nil ?_
  refine Ends.next ?_
  refine CW.seq ?_
  refine CW.seq ?_
  refine CW.region ?_
  refine WL.v (Val.move rfl rfl) ?_ -- d5
  refine WL.v (Val.lenSl rfl Try.underlying23 rfl) ?_ -- d6
  refine WL.v (Val.gtr rfl rfl rfl) ?_ -- d7
  refine WL.nil ?_
  refine Ends.next ?_
  refine CW.condD rfl (fun hc0 => ?_) (fun hc0 => ?_)
  · -- yes
    have hres : rightN l = false := by simp [rightN]; intro h1; omega
    refine CW.seq ?_
    refine CW.region ?_
    refine WL.v (Val.assign rfl rfl) ?_ -- d2
    refine WL.nil ?_
    refine Ends.next ?_
    refine CW.ret ?_
    refine Ends.seqr ?_
    exact Ends.ret1 rfl rfl ⟨by rw [hres], rfl⟩
  · -- no
    refine CW.skip ?_
    refine Ends.next ?_
    refine CW.seq ?_
    refine CW.region ?_
    refine WL.v (Val.assign rfl rfl) ?_ -- d3
    refine WL.nil ?_
    refine Ends.next ?_
    refine CW.seq ?_
    refine CW.seq ?_
    refine CW.region ?_
    refine WL.v (Val.assign rfl rfl) ?_ -- d4
    refine WL.nil ?_
    refine Ends.next ?_
    refine CW.block ?_
    refine CW.loop (α := Nat) (fun k => [(0, .slice A l.length c), (3, .int .i64 ((1 + sumS (l.take k) + k : Nat) : Int)), (4, .int .i64 k)]) (fun k w1 => k ≤ l.length ∧ (∀ s ∈ l.take k, s.size ≠ 0 ∧ s.size ≤ 63) ∧ w = w1) (fun k => l.length - k) 0 ⟨rfl, rfl, rfl, trivial⟩ ⟨Nat.zero_le _, by simp, rfl⟩ ?_
    rintro k _ ⟨hk, hall, rfl⟩
    refine CW.seq ?_
    refine CW.seq ?_
    refine CW.region ?_
    refine WL.v (Val.move rfl rfl) ?_ -- d8
    refine WL.v (Val.move rfl rfl) ?_ -- d9
    refine WL.v (Val.lenSl rfl Try.underlying23 rfl) ?_ -- d10
    refine WL.v (Val.lss rfl rfl rfl) ?_ -- d11
    refine WL.nil ?_
    refine Ends.next ?_
    refine CW.condD rfl (fun hc1 => ?_) (fun hc1 => ?_)
    · -- yes
      have hlt : k < l.length := by omega
      have hst := sumS_take l k hlt
      have hbd := sumS_bound (l.take k) 63 (fun s hs => (hall s hs).2)
      have hln : (l.take k).length ≤ 127 := by rw [List.length_take]; omega
      obtain ⟨ad, rfl, hce⟩ := h.at_ hlt
      refine CW.skip ?_
      refine Ends.next ?_
      refine CW.seq ?_
      refine CW.block ?_
      refine CW.seq ?_
      refine CW.seq ?_
      refine CW.region ?_
      refine WL.v (Val.move rfl rfl) ?_ -- d14
      refine WL.v (Val.move rfl rfl) ?_ -- d15
      refine WL.elem ty23 h rfl rfl rfl rfl (by omega) (v := sv l[k]) (by simp [hlt]) (fun _ => ?_)
      refine WL.v (Val.eqlS rfl rfl rfl) ?_ -- d18
      refine WL.v (Val.move rfl rfl) ?_ -- d19
      refine WL.or (j := 5) (seg := [_, _, _, _, _, _]) (r := ?r1) rfl rfl rfl rfl (fun hb26 HK26 => ?hT1) ?_
      case hT1 =>
        refine WL.yes rfl rfl rfl hb26 ?_
        refine WL.v (Val.move rfl rfl) ?_ -- d20
        refine WL.yes rfl rfl rfl hb26 ?_
        refine WL.v (Val.move rfl rfl) ?_ -- d21
        refine WL.yes rfl rfl rfl hb26 ?_
        refine WL.v (Val.indexAddr rfl ty23 rfl rfl (by omega) (by omega)) ?_ -- d22
        refine WL.yes rfl rfl rfl hb26 ?_
        refine WL.v (Val.load rfl ty23.plain rfl (at_ hce)) ?_
        refine WL.yes rfl rfl rfl hb26 ?_
        refine WL.v (Val.lenStr rfl Try.underlying9 rfl) ?_ -- d24
        refine WL.yes rfl rfl rfl hb26 ?_
        refine WL.v (Val.gtr rfl rfl rfl) ?_ -- d25
        refine WL.v (Val.pickF rfl rfl hb26 rfl) ?_
        refine WL.forget rfl ?_; refine WL.forget rfl ?_; refine WL.forget rfl ?_; refine WL.forget rfl ?_; refine WL.forget rfl ?_; refine WL.forget rfl ?_
        exact HK26
      have hdec : (decide (l[k] = ByteArray.empty) || decide ((63 : Int) < l[k].size)) = decide (¬ (l[k].size ≠ 0 ∧ l[k].size ≤ 63)) := by
        rw [Bool.eq_iff_iff]
        simp only [Bool.or_eq_true, decide_eq_true_eq, size_zero]
        omega
      refine WL.know 26 (.bool (decide (¬ (l[k].size ≠ 0 ∧ l[k].size ≤ 63)))) rfl (congrArg Value.bool hdec) ?_
      refine WL.nil ?_
      refine Ends.next ?_
      refine CW.condD rfl (fun hc2 => ?_) (fun hc2 => ?_)
      · -- yes
        have hres : rightN l = false := by
          have : ¬ ∀ s ∈ l, s.size ≠ 0 ∧ s.size ≤ 63 := fun hh => hc2 (hh l[k] (by simp))
          simp only [rightN, Bool.and_eq_false_iff]
          left; right
          rw [← Bool.not_eq_true, List.all_eq_true]
          intro hh
          exact this fun s hs => by simpa using hh s hs
        refine CW.seq ?_
        refine CW.region ?_
        refine WL.v (Val.assign rfl rfl) ?_ -- d2
        refine WL.nil ?_
        refine Ends.next ?_
        refine CW.ret ?_
        refine Ends.seqr ?_
        refine Ends.blkr ?_
        refine Ends.seqr ?_
        refine Ends.seqr ?_
        refine Ends.blkr ?_
        refine Ends.seqr ?_
        exact Ends.ret1 rfl rfl ⟨by rw [hres], rfl⟩
      · -- no
        have hok : l[k].size ≠ 0 ∧ l[k].size ≤ 63 := by omega
        refine CW.skip ?_
        refine Ends.next ?_
        refine CW.region ?_
        refine WL.v (Val.move rfl rfl) ?_ -- d27
        refine WL.v (Val.move rfl rfl) ?_ -- d28
        refine WL.v (Val.move rfl rfl) ?_ -- d29
        refine WL.elem ty23 h rfl rfl rfl rfl (by omega) (v := sv l[k]) (by simp [hlt]) (fun _ => ?_)
        refine WL.v (Val.lenStr rfl Try.underlying9 rfl) ?_ -- d32
        refine WL.v (Val.add rfl rfl rfl _ (IntWalk.i64_in _ (by omega))) ?_ -- d33
        refine WL.v (Val.add rfl rfl rfl ((1 + sumS (l.take (k + 1)) + (k + 1) : Nat) : Int) (i64_eq (by omega) (by omega))) ?_
        refine WL.v (Val.assign rfl rfl) ?_ -- d3
        refine WL.nil ?_
        refine Ends.blkn ?_
        refine Ends.next ?_
        refine CW.region ?_
        refine WL.v (Val.move rfl rfl) ?_ -- d12
        refine WL.v (Val.add rfl rfl rfl _ (IntWalk.i64_in _ (by omega))) ?_ -- d13
        refine WL.v (Val.assign rfl rfl) ?_ -- d4
        refine WL.nil ?_
        exact Ends.round (k + 1) (by omega) ⟨rfl, rfl, rfl, trivial⟩ ⟨hlt, by
          intro s hs
          rw [List.take_succ_eq_append_getElem hlt, List.mem_append, List.mem_singleton] at hs
          rcases hs with hs | rfl
          · exact hall s hs
          · exact hok, rfl⟩
    · -- no
      have hkl : k = l.length := by omega
      subst hkl
      rw [List.take_length] at hall
      refine CW.exit ?_
      refine Ends.seqx ?_
      refine Ends.seqx ?_
      refine Ends.blke ?_
      refine Ends.next ?_
      refine CW.seq ?_
      refine CW.region ?_
      refine WL.v (Val.move rfl rfl) ?_ -- d35
      refine WL.v (Val.leq rfl rfl rfl) ?_ -- d36
      refine WL.v (Val.assign rfl rfl) ?_ -- d2
      refine WL.nil ?_
      refine Ends.next ?_
      refine CW.ret ?_
      refine Ends.ret1 rfl rfl ⟨?_, rfl⟩
      congr 1
      rw [List.take_length]
      have h2 : (l.all fun s => decide (s.size ≠ 0 ∧ s.size ≤ 63)) = true := by rw [List.all_eq_true]; intro s hs; simpa using hall s hs
      simp only [rightN, h2, Bool.and_true]
      rw [show decide (l.length ≤ 127) = true from by simp; omega, Bool.true_and]
      exact decide_eq_decide.2 (by omega)
-- signet/signethelp.Name
theorem name30 (v u : Value) (l m : List ByteArray) (w : World) (h : Nm w v l) (h' : Nm w u m) (hl : l.length ≤ 1000000000000000) :
    Runs Try.prog 30 #[v, u] w fun r w' => r = .bool (decide (l = m)) ∧ Below w.heap.size w w' := by
  obtain ⟨A, c, hv, -⟩ := id h
  rw [List.length_map] at hv
  subst hv
  obtain ⟨A', c', hv, -⟩ := id h'
  rw [List.length_map] at hv
  subst hv
  refine enter (N := 26) (args := [_, _]) Try.func30 rfl rfl (Nat.le_of_ble_eq_true rfl) ?_
  refine CW.seq ?_
  refine CW.region ?_
  refine WL.v (Val.assign rfl rfl) ?_ -- d4
  refine WL.nil ?_
  refine Ends.next ?_
  refine CW.seq ?_
  refine CW.seq ?_
  refine CW.region ?_
  refine WL.v (Val.move rfl rfl) ?_ -- d6
  refine WL.v (Val.lenSl rfl Try.underlying23 rfl) ?_ -- d7
  refine WL.v (Val.move rfl rfl) ?_ -- d8
  refine WL.v (Val.lenSl rfl Try.underlying23 rfl) ?_ -- d9
  refine WL.v (Val.neqI rfl rfl rfl) ?_ -- d10
  refine WL.nil ?_
  refine Ends.next ?_
  refine CW.condD rfl (fun hc0 => ?_) (fun hc0 => ?_)
  · -- yes
    have hres : decide (l = m) = false := decide_eq_false fun hh => by subst hh; exact hc0 rfl
    refine CW.seq ?_
    refine CW.region ?_
    refine WL.v (Val.assign rfl rfl) ?_ -- d4
    refine WL.nil ?_
    refine Ends.next ?_
    refine CW.ret ?_
    refine Ends.seqr ?_
    exact Ends.ret1 rfl rfl ⟨by rw [hres], by first | exact Below.refl _ _ | exact hb | exact hb.drew⟩
  · -- no
    have hlm : l.length = m.length := by omega
    refine CW.skip ?_
    refine Ends.next ?_
    refine CW.seq ?_
    refine CW.seq ?_
    refine CW.region ?_
    refine WL.v (Val.assign rfl rfl) ?_ -- d5
    refine WL.nil ?_
    refine Ends.next ?_
    refine CW.block ?_
    refine CW.loop (α := Nat) (fun k => [(0, .slice A l.length c), (1, .slice A' m.length c'), (5, .int .i64 k)]) (fun k w1 => k ≤ l.length ∧ l.take k = m.take k ∧ Below w.heap.size w w1) (fun k => l.length - k) 0 ⟨rfl, rfl, rfl, trivial⟩ ⟨Nat.zero_le _, by simp, Below.refl _ _⟩ ?_
    rintro k w1 ⟨hk, heq, hb⟩
    refine CW.seq ?_
    refine CW.seq ?_
    refine CW.region ?_
    refine WL.v (Val.move rfl rfl) ?_ -- d11
    refine WL.v (Val.move rfl rfl) ?_ -- d12
    refine WL.v (Val.lenSl rfl Try.underlying23 rfl) ?_ -- d13
    refine WL.v (Val.lss rfl rfl rfl) ?_ -- d14
    refine WL.nil ?_
    refine Ends.next ?_
    refine CW.condD rfl (fun hc1 => ?_) (fun hc1 => ?_)
    · -- yes
      have hlt : k < l.length := by omega
      have hlt' : k < m.length := by omega
      obtain ⟨ad, rfl, hce⟩ := (h.keep hb).at_ hlt
      obtain ⟨ad', rfl, hce'⟩ := (h'.keep hb).at_ hlt'
      refine CW.skip ?_
      refine Ends.next ?_
      refine CW.seq ?_
      refine CW.block ?_
      refine CW.seq ?_
      refine CW.draw (· = _) rfl ?_
      refine WH.take 0 rfl rfl (Val.move rfl rfl) ?_ -- d17
      refine WH.take 1 rfl rfl (Val.move rfl rfl) ?_ -- d18
      refine WH.take 2 rfl rfl (Val.indexAddr rfl ty23 rfl rfl (by omega) (by omega)) ?_ -- d19
      refine WH.take 3 rfl rfl (Val.load rfl ty23.plain rfl (at_ hce)) ?_ -- d20
      refine WH.take 4 rfl rfl (Val.move rfl rfl) ?_ -- d21
      refine WH.take 5 rfl rfl (Val.move rfl rfl) ?_ -- d22
      refine WH.take 6 rfl rfl (Val.indexAddr rfl ty23 rfl rfl (by omega) (by omega)) ?_ -- d23
      refine WH.take 7 rfl rfl (Val.load rfl ty23.plain rfl (at_ hce')) ?_ -- d24
      refine WH.take 8 rfl rfl (Val.neqS rfl rfl rfl) ?_ -- d25
      refine WH.done ?_
      refine Ends.next ?_
      refine CW.condD rfl (fun hc2 => ?_) (fun hc2 => ?_)
      · -- yes
        have hres : decide (l = m) = false := decide_eq_false fun hh => by subst hh; exact hc2 rfl
        refine CW.seq ?_
        refine CW.region ?_
        refine WL.v (Val.assign rfl rfl) ?_ -- d4
        refine WL.nil ?_
        refine Ends.next ?_
        refine CW.ret ?_
        refine Ends.blkr ?_
        refine Ends.seqr ?_
        refine Ends.seqr ?_
        refine Ends.blkr ?_
        refine Ends.seqr ?_
        exact Ends.ret1 rfl rfl ⟨by rw [hres], by first | exact Below.refl _ _ | exact hb | exact hb.drew⟩
      · -- no
        have hke : l[k] = m[k] := Decidable.not_not.1 hc2
        refine CW.skip ?_
        refine Ends.blkn ?_
        refine Ends.next ?_
        refine CW.region ?_
        refine WL.v (Val.move rfl rfl) ?_ -- d15
        refine WL.v (Val.add rfl rfl rfl _ (IntWalk.i64_in _ (by omega))) ?_ -- d16
        refine WL.v (Val.assign rfl rfl) ?_ -- d5
        refine WL.nil ?_
        exact Ends.round (k + 1) (by omega) ⟨rfl, rfl, rfl, trivial⟩ ⟨hlt, by rw [List.take_succ_eq_append_getElem hlt, List.take_succ_eq_append_getElem hlt', heq, hke], hb.drew⟩
    · -- no
      have hkl : k = l.length := by omega
      have hres : decide (l = m) = true := decide_eq_true (by rw [hkl, List.take_length, hlm, List.take_length] at heq; exact heq)
      refine CW.exit ?_
      refine Ends.seqx ?_
      refine Ends.seqx ?_
      refine Ends.blke ?_
      refine Ends.next ?_
      refine CW.seq ?_
      refine CW.region ?_
      refine WL.v (Val.assign rfl rfl) ?_ -- d4
      refine WL.nil ?_
      refine Ends.next ?_
      refine CW.ret ?_
      exact Ends.ret1 rfl rfl ⟨by rw [hres], by first | exact Below.refl _ _ | exact hb | exact hb.drew⟩
-- signet/signethelp.Bytes
theorem bytes19 (v u : Value) (l m : List UInt8) (w : World) (h : Bs w v l) (h' : Bs w u m) :
    Runs Try.prog 19 #[v, u] w fun r w' => r = .bool (decide (l = m)) ∧ w = w' := by
  refine enter (N := 10) (args := [_, _]) Try.func19 rfl rfl (Nat.le_of_ble_eq_true rfl) ?_
  refine CW.seq ?_
  refine CW.region ?_
  refine WL.v (Val.assign rfl rfl) ?_ -- d4
  refine WL.nil ?_
  refine Ends.next ?_
  refine CW.seq ?_
  refine CW.region ?_
  refine WL.v (Val.move rfl rfl) ?_ -- d5
  refine WL.v (Val.toStr Try.underlying25 Try.underlying9 Try.underlying5 rfl rfl (at_ h)) ?_
  refine WL.v (Val.move rfl rfl) ?_ -- d7
  refine WL.v (Val.toStr Try.underlying25 Try.underlying9 Try.underlying5 rfl rfl (at_ h')) ?_
  refine WL.v (Val.eqlS rfl rfl rfl) ?_ -- d9
  refine WL.v (Val.assign rfl rfl) ?_ -- d4
  refine WL.nil ?_
  refine Ends.next ?_
  refine CW.ret ?_
  refine Ends.ret1 rfl rfl ⟨congrArg Value.bool (decide_eq_decide.2 ⟨fun hh => ?_, fun hh => by rw [hh]⟩), rfl⟩
  have := congrArg bytes hh
  simpa [bytes] using this
end Go.Proofs.Ytjdgckamjgldmaa
