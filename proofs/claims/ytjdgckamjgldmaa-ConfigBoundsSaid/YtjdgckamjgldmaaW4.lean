/- Walks: Check; the order. -/
import Derived.Test.YtjdgckamjgldmaaBase
import Derived.Test.YtjdgckamjgldmaaW3
namespace Go.Proofs.Ytjdgckamjgldmaa
open Go.RowKit Go.Eng

theorem any_take {α : Type} (p : α → Bool) (l : List α) (k : Nat) (hk : k < l.length) : (l.take (k + 1)).any p = ((l.take k).any p || p l[k]) := by
  rw [List.take_succ_eq_append_getElem hk, List.any_append]
  simp
theorem min_int (a b : Int) : (if b < a then b else a) ≤ a ∧ (if b < a then b else a) ≤ b ∧ ((if b < a then b else a) = a ∨ (if b < a then b else a) = b) := by
  split <;> omega
-- signet/name.Check
theorem check38 (v : Value) (l : List ByteArray) (w : World) (h : Nm w v l) (hl : l.length ≤ 1000000000000000) :
    Runs Try.prog 38 #[v] w fun r w' => r = .int .i64 (checkN l) ∧ w = w' := by
  obtain ⟨A, c, hv, -⟩ := id h
  rw [List.length_map] at hv
  subst hv
  refine enter (N := 34) (args := [_]) Try.func38 rfl rfl (Nat.le_of_ble_eq_true rfl) ?_
  refine CW.seq ?_
  refine CW.region ?_
  refine WL.v (Val.assign rfl rfl) ?_ -- d2
  refine WL.nil ?_
  refine Ends.next ?_
  refine CW.seq ?_
  refine CW.region ?_
  refine WL.v (Val.assign rfl rfl) ?_ -- d3
  refine WL.v (Val.assign rfl rfl) ?_ -- d4
  refine WL.nil ?_
  refine Ends.next ?_
  refine CW.seq ?_
  refine CW.seq ?_
  refine CW.region ?_
  refine WL.v (Val.move rfl rfl) ?_ -- d7
  refine WL.v (Val.lenSl rfl Try.underlying23 rfl) ?_ -- d8
  refine WL.v (Val.move rfl rfl) ?_ -- d9
  refine WL.nil ?_
  refine Ends.next ?_
  refine CW.block ?_
  refine CW.loop (α := Nat × Int × Bool) (fun (k, t, lg) => [(3, .int .i64 t), (4, .bool lg), (7, .slice A l.length c), (8, .int .i64 l.length), (9, .int .i64 k)]) (fun (k, t, lg) w1 => k ≤ l.length ∧ (l.take k).any (fun s => decide (s.size = 0)) = false ∧ lg = (l.take k).any (fun s => decide (63 < s.size)) ∧ (1 ≤ t ∧ t ≤ 510 ∧ (1 + sumS (l.take k) + k ≤ 255 → t = ((1 + sumS (l.take k) + k : Nat) : Int)) ∧ (255 < 1 + sumS (l.take k) + k → 255 < t)) ∧ w = w1) (fun (k, t, lg) => l.length - k) (0, 1, false) ⟨rfl, rfl, rfl, rfl, rfl, trivial⟩ ⟨Nat.zero_le _, by simp, by simp, ⟨by decide, by decide, by simp [sumS], by simp [sumS]⟩, rfl⟩ ?_
  rintro ⟨k, t, lg⟩ _ ⟨hk, hne, hlg, ⟨ht0, ht1, ht2, ht3⟩, rfl⟩
  refine CW.seq ?_
  refine CW.region ?_
  refine WL.v (Val.lss rfl rfl rfl) ?_ -- d10
  refine WL.nil ?_
  refine Ends.next ?_
  refine CW.seq ?_
  refine CW.condD rfl (fun hc0 => ?_) (fun hc0 => ?_)
  · -- yes
    have hlt : k < l.length := by omega
    have hst := sumS_take l k hlt
    have ha0 := any_take (fun s => decide (s.size = 0)) l k hlt
    have ha1 := any_take (fun s => decide (63 < s.size)) l k hlt
    refine CW.skip ?_
    refine Ends.next ?_
    refine CW.seq ?_
    refine CW.block ?_
    refine CW.seq ?_
    refine CW.region ?_
    refine WL.elem ty23 h rfl rfl rfl rfl (by omega) (v := sv l[k]) (by simp [hlt]) (fun _ => ?_)
    refine WL.v (Val.assign rfl rfl) ?_ -- d6
    refine WL.nil ?_
    refine Ends.next ?_
    refine CW.seq ?_
    refine CW.seq ?_
    refine CW.region ?_
    refine WL.v (Val.move rfl rfl) ?_ -- d13
    refine WL.v (Val.eqlS rfl rfl rfl) ?_ -- d14
    refine WL.nil ?_
    refine Ends.next ?_
    refine CW.condD rfl (fun hc1 => ?_) (fun hc1 => ?_)
    · -- yes
      have hz : l[k].size = 0 := size_zero.1 hc1
      have hres : checkN l = 30 := by
        rw [checkN, if_pos]
        rw [List.any_eq_true]
        exact ⟨l[k], List.getElem_mem hlt, by simp [hz]⟩
      refine CW.seq ?_
      refine CW.region ?_
      refine WL.v (Val.assign rfl rfl) ?_ -- d2
      refine WL.nil ?_
      refine Ends.next ?_
      refine CW.ret ?_
      refine Ends.seqr ?_
      refine Ends.blkr ?_
      refine Ends.seqr ?_
      refine Ends.seqr ?_
      refine Ends.blkr ?_
      refine Ends.seqr ?_
      exact Ends.ret1 rfl rfl ⟨by rw [hres], rfl⟩
    · -- no
      have hnz : ¬ l[k].size = 0 := fun hh => hc1 (size_zero.2 hh)
      refine CW.skip ?_
      refine Ends.next ?_
      refine CW.seq ?_
      refine CW.region ?_
      refine WL.v (Val.move rfl rfl) ?_ -- d15
      refine WL.v (Val.move rfl rfl) ?_ -- d16
      refine WL.or (j := 1) (seg := [_, _, _]) (r := ?r1) rfl rfl rfl rfl (fun hb20 HK20 => ?hT1) ?_
      case hT1 =>
        refine WL.yes rfl rfl rfl hb20 ?_
        refine WL.v (Val.move rfl rfl) ?_ -- d17
        refine WL.yes rfl rfl rfl hb20 ?_
        refine WL.v (Val.lenStr rfl Try.underlying9 rfl) ?_ -- d18
        refine WL.yes rfl rfl rfl hb20 ?_
        refine WL.v (Val.gtr rfl rfl rfl) ?_ -- d19
        refine WL.v (Val.pickF rfl rfl hb20 rfl) ?_
        refine WL.forget rfl ?_; refine WL.forget rfl ?_; refine WL.forget rfl ?_
        exact HK20
      refine WL.v (Val.assign rfl rfl) ?_ -- d4
      refine WL.nil ?_
      refine Ends.next ?_
      refine CW.region ?_
      refine WL.v (Val.move rfl rfl) ?_ -- d21
      refine WL.v (Val.add rfl rfl rfl _ (IntWalk.i64_in _ (by omega))) ?_ -- d22
      refine WL.v (Val.move rfl rfl) ?_ -- d23
      refine WL.v (Val.lenStr rfl Try.underlying9 rfl) ?_ -- d24
      have hm1 := min_int (l[k].size : Int) 255
      refine WL.v (Val.min2 rfl rfl rfl) ?_
      generalize (if (255 : Int) < (l[k].size : Int) then (255 : Int) else (l[k].size : Int)) = m1 at hm1 ⊢
      refine WL.v (Val.add rfl rfl rfl _ (IntWalk.i64_in _ (by omega))) ?_ -- d26
      have hm2 := min_int (t + 1 + m1) 510
      refine WL.v (Val.min2 rfl rfl rfl) ?_
      generalize (if (510 : Int) < t + 1 + m1 then (510 : Int) else t + 1 + m1) = m2 at hm2 ⊢
      refine WL.v (Val.assign rfl rfl) ?_ -- d3
      refine WL.nil ?_
      refine Ends.blkn ?_
      refine Ends.next ?_
      refine CW.region ?_
      refine WL.v (Val.add rfl rfl rfl _ (IntWalk.i64_in _ (by omega))) ?_ -- d28
      refine WL.v (Val.move rfl rfl) ?_ -- d9
      refine WL.nil ?_
      refine Ends.round (k + 1, m2, (lg || decide ((63 : Int) < (l[k].size : Int)))) (by simp only; omega) ⟨rfl, rfl, rfl, rfl, rfl, trivial⟩ ⟨hlt, by rw [ha0, hne]; simp [hnz], ?_, ⟨by omega, by omega, by omega, by omega⟩, rfl⟩
      rw [ha1, ← hlg]
      congr 1
      exact decide_eq_decide.2 (by omega)
  · -- no
    have hkl : k = l.length := by omega
    subst hkl
    rw [List.take_length] at hne hlg ht2 ht3
    refine CW.exit ?_
    refine Ends.seqx ?_
    refine Ends.seqx ?_
    refine Ends.blke ?_
    refine Ends.next ?_
    refine CW.seq ?_
    refine CW.seq ?_
    refine CW.region ?_
    refine WL.v (Val.move rfl rfl) ?_ -- d29
    refine WL.v (Val.move rfl rfl) ?_ -- d30
    refine WL.or (j := 1) (seg := [_, _]) (r := ?r2) rfl rfl rfl rfl (fun hb33 HK33 => ?hT2) ?_
    case hT2 =>
      refine WL.yes rfl rfl rfl hb33 ?_
      refine WL.v (Val.move rfl rfl) ?_ -- d31
      refine WL.yes rfl rfl rfl hb33 ?_
      refine WL.v (Val.gtr rfl rfl rfl) ?_ -- d32
      refine WL.v (Val.pickF rfl rfl hb33 rfl) ?_
      refine WL.forget rfl ?_; refine WL.forget rfl ?_
      exact HK33
    refine WL.nil ?_
    refine Ends.next ?_
    refine CW.cond rfl (fun hc2 => ?_) (fun hc2 => ?_)
    · -- yes
      have hres : checkN l = 31 := by
        rw [checkN, if_neg (by rw [hne]; decide), if_pos]
        rw [← hlg]
        simp only [Bool.or_eq_true, decide_eq_true_eq] at hc2
        rcases hc2 with h1 | h1
        · exact .inl h1
        · exact .inr (by omega)
      refine CW.seq ?_
      refine CW.region ?_
      refine WL.v (Val.assign rfl rfl) ?_ -- d2
      refine WL.nil ?_
      refine Ends.next ?_
      refine CW.ret ?_
      refine Ends.seqr ?_
      exact Ends.ret1 rfl rfl ⟨by rw [hres], rfl⟩
    · -- no
      have hres : checkN l = 0 := by
        rw [checkN, if_neg (by rw [hne]; decide), if_neg]
        rw [← hlg]
        simp only [Bool.or_eq_false_iff, decide_eq_false_iff_not] at hc2
        intro hh
        rcases hh with h1 | h1
        · rw [hc2.1] at h1; cases h1
        · omega
      refine CW.skip ?_
      refine Ends.next ?_
      refine CW.seq ?_
      refine CW.region ?_
      refine WL.v (Val.assign rfl rfl) ?_ -- d2
      refine WL.nil ?_
      refine Ends.next ?_
      refine CW.ret ?_
      exact Ends.ret1 rfl rfl ⟨by rw [hres], rfl⟩
-- signet/signetref3.Check
theorem check39 (v : Value) (l : List ByteArray) (w : World) (h : Nm w v l) (hl : l.length ≤ 1000000000000000) :
    Runs Try.prog 39 #[v] w fun r w' => r = .int .i64 (checkN l) ∧ w = w' := by
  obtain ⟨A, c, hv, -⟩ := id h
  rw [List.length_map] at hv
  subst hv
  refine enter (N := 39) (args := [_]) Try.func39 rfl rfl (Nat.le_of_ble_eq_true rfl) ?_
  refine CW.seq ?_
  refine CW.region ?_
  refine WL.v (Val.assign rfl rfl) ?_ -- d2
  refine WL.nil ?_
  refine Ends.next ?_
  refine CW.seq ?_
  refine CW.region ?_
  refine WL.v (Val.assign rfl rfl) ?_ -- d3
  refine WL.nil ?_
  refine Ends.next ?_
  refine CW.seq ?_
  refine CW.seq ?_
  refine CW.region ?_
  refine WL.v (Val.assign rfl rfl) ?_ -- d4
  refine WL.nil ?_
  refine Ends.next ?_
  refine CW.block ?_
  refine CW.loop (α := Nat) (fun k => [(0, .slice A l.length c), (3, .int .i64 1), (4, .int .i64 k)]) (fun k w1 => k ≤ l.length ∧ (l.take k).any (fun s => decide (s.size = 0)) = false ∧ w = w1) (fun k => l.length - k) 0 ⟨rfl, rfl, rfl, trivial⟩ ⟨Nat.zero_le _, by simp, rfl⟩ ?_
  rintro k _ ⟨hk, hne, rfl⟩
  refine CW.seq ?_
  refine CW.seq ?_
  refine CW.region ?_
  refine WL.v (Val.move rfl rfl) ?_ -- d6
  refine WL.v (Val.move rfl rfl) ?_ -- d7
  refine WL.v (Val.lenSl rfl Try.underlying23 rfl) ?_ -- d8
  refine WL.v (Val.lss rfl rfl rfl) ?_ -- d9
  refine WL.nil ?_
  refine Ends.next ?_
  refine CW.condD rfl (fun hc0 => ?_) (fun hc0 => ?_)
  · -- yes
    have hlt : k < l.length := by omega
    have ha0 := any_take (fun s => decide (s.size = 0)) l k hlt
    refine CW.skip ?_
    refine Ends.next ?_
    refine CW.seq ?_
    refine CW.block ?_
    refine CW.seq ?_
    refine CW.region ?_
    refine WL.v (Val.move rfl rfl) ?_ -- d12
    refine WL.v (Val.move rfl rfl) ?_ -- d13
    refine WL.elem ty23 h rfl rfl rfl rfl (by omega) (v := sv l[k]) (by simp [hlt]) (fun _ => ?_)
    refine WL.v (Val.eqlS rfl rfl rfl) ?_ -- d16
    refine WL.nil ?_
    refine Ends.next ?_
    refine CW.condD rfl (fun hc1 => ?_) (fun hc1 => ?_)
    · -- yes
      have hz : l[k].size = 0 := size_zero.1 hc1
      have hres : checkN l = 30 := by
        rw [checkN, if_pos]
        rw [List.any_eq_true]
        exact ⟨l[k], List.getElem_mem hlt, by simp [hz]⟩
      refine CW.seq ?_
      refine CW.region ?_
      refine WL.v (Val.assign rfl rfl) ?_ -- d2
      refine WL.nil ?_
      refine Ends.next ?_
      refine CW.ret ?_
      refine Ends.blkr ?_
      refine Ends.seqr ?_
      refine Ends.seqr ?_
      refine Ends.blkr ?_
      refine Ends.seqr ?_
      exact Ends.ret1 rfl rfl ⟨by rw [hres], rfl⟩
    · -- no
      have hnz : ¬ l[k].size = 0 := fun hh => hc1 (size_zero.2 hh)
      refine CW.skip ?_
      refine Ends.blkn ?_
      refine Ends.next ?_
      refine CW.region ?_
      refine WL.v (Val.move rfl rfl) ?_ -- d10
      refine WL.v (Val.add rfl rfl rfl _ (IntWalk.i64_in _ (by omega))) ?_ -- d11
      refine WL.v (Val.assign rfl rfl) ?_ -- d4
      refine WL.nil ?_
      exact Ends.round (k + 1) (by omega) ⟨rfl, rfl, rfl, trivial⟩ ⟨hlt, by rw [ha0, hne]; simp [hnz], rfl⟩
  · -- no
    have hkl : k = l.length := by omega
    subst hkl
    rw [List.take_length] at hne
    refine CW.exit ?_
    refine Ends.seqx ?_
    refine Ends.seqx ?_
    refine Ends.blke ?_
    refine Ends.next ?_
    refine CW.seq ?_
    refine CW.seq ?_
    refine CW.region ?_
    refine WL.v (Val.assign rfl rfl) ?_ -- d5
    refine WL.nil ?_
    refine Ends.next ?_
    refine CW.block ?_
    refine CW.loop (α := Nat) (fun k => [(0, .slice A l.length c), (3, .int .i64 ((1 + sumS (l.take k) + k : Nat) : Int)), (5, .int .i64 k)]) (fun k w1 => k ≤ l.length ∧ (l.take k).any (fun s => decide (63 < s.size)) = false ∧ 1 + sumS (l.take k) + k ≤ 255 ∧ w = w1) (fun k => l.length - k) 0 ⟨rfl, rfl, rfl, trivial⟩ ⟨Nat.zero_le _, by simp, by simp [sumS], rfl⟩ ?_
    rintro k _ ⟨hk, hlg, hT, rfl⟩
    refine CW.seq ?_
    refine CW.seq ?_
    refine CW.region ?_
    refine WL.v (Val.move rfl rfl) ?_ -- d17
    refine WL.v (Val.move rfl rfl) ?_ -- d18
    refine WL.v (Val.lenSl rfl Try.underlying23 rfl) ?_ -- d19
    refine WL.v (Val.lss rfl rfl rfl) ?_ -- d20
    refine WL.nil ?_
    refine Ends.next ?_
    refine CW.condD rfl (fun hc2 => ?_) (fun hc2 => ?_)
    · -- yes
      have hlt : k < l.length := by omega
      have ha1 := any_take (fun s => decide (63 < s.size)) l k hlt
      have hst := sumS_take l k hlt
      have hle := sumS_le l (k + 1)
      refine CW.skip ?_
      refine Ends.next ?_
      refine CW.seq ?_
      refine CW.block ?_
      refine CW.seq ?_
      refine CW.seq ?_
      refine CW.region ?_
      refine WL.v (Val.move rfl rfl) ?_ -- d23
      refine WL.v (Val.move rfl rfl) ?_ -- d24
      refine WL.elem ty23 h rfl rfl rfl rfl (by omega) (v := sv l[k]) (by simp [hlt]) (fun _ => ?_)
      refine WL.v (Val.lenStr rfl Try.underlying9 rfl) ?_ -- d27
      refine WL.v (Val.gtr rfl rfl rfl) ?_ -- d28
      refine WL.nil ?_
      refine Ends.next ?_
      refine CW.condD rfl (fun hc3 => ?_) (fun hc3 => ?_)
      · -- yes
        have hres : checkN l = 31 := by
          rw [checkN, if_neg (by rw [hne]; decide), if_pos]
          left
          rw [List.any_eq_true]
          exact ⟨l[k], List.getElem_mem hlt, by simp; omega⟩
        refine CW.seq ?_
        refine CW.region ?_
        refine WL.v (Val.assign rfl rfl) ?_ -- d2
        refine WL.nil ?_
        refine Ends.next ?_
        refine CW.ret ?_
        refine Ends.seqr ?_
        refine Ends.blkr ?_
        refine Ends.seqr ?_
        refine Ends.seqr ?_
        refine Ends.blkr ?_
        refine Ends.seqr ?_
        exact Ends.ret1 rfl rfl ⟨by rw [hres], rfl⟩
      · -- no
        refine CW.skip ?_
        refine Ends.next ?_
        refine CW.seq ?_
        refine CW.region ?_
        refine WL.v (Val.move rfl rfl) ?_ -- d29
        refine WL.v (Val.move rfl rfl) ?_ -- d30
        refine WL.v (Val.move rfl rfl) ?_ -- d31
        refine WL.elem ty23 h rfl rfl rfl rfl (by omega) (v := sv l[k]) (by simp [hlt]) (fun _ => ?_)
        refine WL.v (Val.lenStr rfl Try.underlying9 rfl) ?_ -- d34
        refine WL.v (Val.add rfl rfl rfl _ (IntWalk.i64_in _ (by omega))) ?_ -- d35
        refine WL.v (Val.add rfl rfl rfl ((1 + sumS (l.take (k + 1)) + (k + 1) : Nat) : Int) (i64_eq (by omega) (by omega))) ?_
        refine WL.v (Val.assign rfl rfl) ?_ -- d3
        refine WL.nil ?_
        refine Ends.next ?_
        refine CW.seq ?_
        refine CW.region ?_
        refine WL.v (Val.move rfl rfl) ?_ -- d37
        refine WL.v (Val.gtr rfl rfl rfl) ?_ -- d38
        refine WL.nil ?_
        refine Ends.next ?_
        refine CW.condD rfl (fun hc4 => ?_) (fun hc4 => ?_)
        · -- yes
          have hres : checkN l = 31 := by
            rw [checkN, if_neg (by rw [hne]; decide), if_pos]
            right
            omega
          refine CW.seq ?_
          refine CW.region ?_
          refine WL.v (Val.assign rfl rfl) ?_ -- d2
          refine WL.nil ?_
          refine Ends.next ?_
          refine CW.ret ?_
          refine Ends.blkr ?_
          refine Ends.seqr ?_
          refine Ends.seqr ?_
          refine Ends.blkr ?_
          refine Ends.seqr ?_
          exact Ends.ret1 rfl rfl ⟨by rw [hres], rfl⟩
        · -- no
          refine CW.skip ?_
          refine Ends.blkn ?_
          refine Ends.next ?_
          refine CW.region ?_
          refine WL.v (Val.move rfl rfl) ?_ -- d21
          refine WL.v (Val.add rfl rfl rfl _ (IntWalk.i64_in _ (by omega))) ?_ -- d22
          refine WL.v (Val.assign rfl rfl) ?_ -- d5
          refine WL.nil ?_
          exact Ends.round (k + 1) (by omega) ⟨rfl, rfl, rfl, trivial⟩ ⟨hlt, by rw [ha1, hlg]; simp; omega, by omega, rfl⟩
    · -- no
      have hkl : k = l.length := by omega
      subst hkl
      rw [List.take_length] at hlg hT
      have hres : checkN l = 0 := by
        rw [checkN, if_neg (by rw [hne]; decide), if_neg]
        rw [hlg]
        intro hh
        rcases hh with h1 | h1
        · cases h1
        · omega
      refine CW.exit ?_
      refine Ends.seqx ?_
      refine Ends.seqx ?_
      refine Ends.blke ?_
      refine Ends.next ?_
      refine CW.seq ?_
      refine CW.region ?_
      refine WL.v (Val.assign rfl rfl) ?_ -- d2
      refine WL.nil ?_
      refine Ends.next ?_
      refine CW.ret ?_
      exact Ends.ret1 rfl rfl ⟨by rw [hres], rfl⟩
end Go.Proofs.Ytjdgckamjgldmaa
