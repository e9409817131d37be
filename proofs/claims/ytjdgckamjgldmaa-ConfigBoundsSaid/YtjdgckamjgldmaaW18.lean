/- Walks: NameWrites. -/
import Derived.Test.YtjdgckamjgldmaaW17
namespace Go.Proofs.Ytjdgckamjgldmaa
open Go.RowKit Go.Eng

theorem run_equal_bool {P : Program} {w : World} {tx : TypeId} (ht : P.underlying tx = some .bool) (a b : Bool) : (Op.equal tx (.bool a) (.bool b)).run P w = .ok (a == b) w := by
  show (Op.equalIn (9999 + 1) tx (.bool a) (.bool b)).run P w = _
  unfold Op.equalIn
  simp only [run_underlying ht, Sem.run_bind, Sem.run_pure, Result.andThen_ok]
theorem Val.eqlB {e : Env} {o : Oper} {S : World → Prop} {P : Program} {x y : Operand} {tx ty : TypeId} {a b : Bool} (ht : P.underlying tx = some .bool) (ho : o.op = .binOp .eql tx x y ty) (hx : Opd e x = some (.bool a)) (hy : Opd e y = some (.bool b)) :
    Val P e o S (.bool (decide (a = b))) := Val.bin ho hx hy fun w => by
  have h1 : eqGuard .eql tx x y (.bool a) (.bool b) = pure () := rfl
  have h2 : binOp .eql tx (.bool a) (.bool b) = (do pure (.bool (← Op.equal tx (.bool a) (.bool b)))) := rfl
  rw [h1, h2, Sem.run_bind, Sem.run_pure, Result.andThen_ok, Sem.run_bind, run_equal_bool ht, Result.andThen_ok, Sem.run_pure]
  cases a <;> cases b <;> rfl
theorem light_sum {l : List ByteArray} (h : lightN l = true) : l.length ≤ 200 ∧ sumS l ≤ 2000 ∧ ∀ s ∈ l, s.size ≤ 300 := by
  simp only [lightN, Bool.and_eq_true, decide_eq_true_eq, List.all_eq_true] at h
  exact ⟨h.1.1, h.2, h.1.2⟩
-- signet/signetlaw3.NameWrites
theorem writes11 (v : Value) (l : List ByteArray) (w : World) (h : Nm w v l) : Runs Try.prog 11 #[v] w fun r w' => r = .bool true ∧ Below w.heap.size w w' := by
  obtain ⟨A, c, hv, -⟩ := id h
  rw [List.length_map] at hv
  subst hv
  refine enter (N := 41) (args := [_]) Try.func11 rfl rfl (Nat.le_of_ble_eq_true rfl) ?_
  refine CW.seq ?_
  refine CW.region ?_
  refine WL.v (Val.assign rfl rfl) ?_ -- d2
  refine WL.nil ?_
  refine Ends.next ?_
  refine CW.seq ?_
  refine CW.seq ?_
  refine CW.region ?_
  refine WL.call bodied25 rfl rfl (known25 w) ?_
  rintro _ w1 ⟨rfl, hb1⟩
  have h1 := h.keep hb1
  refine WL.v (Val.not rfl rfl) ?_ -- d4
  refine WL.nil ?_
  refine Ends.next ?_
  refine CW.condF rfl (rfl) ?_
  refine CW.skip ?_
  refine Ends.next ?_
  refine CW.seq ?_
  refine CW.seq ?_
  refine CW.region ?_
  refine WL.v (Val.move rfl rfl) ?_ -- d5
  refine WL.call bodied34 rfl rfl (light34 _ _ _ h1) ?_
  rintro _ _ ⟨rfl, rfl⟩
  refine WL.v (Val.not rfl rfl) ?_ -- d7
  refine WL.nil ?_
  refine Ends.next ?_
  refine CW.cond rfl (fun hc1 => ?_) (fun hc1 => ?_)
  · -- yes
    refine CW.seq ?_
    refine CW.region ?_
    refine WL.v (Val.assign rfl rfl) ?_ -- d2
    refine WL.nil ?_
    refine Ends.next ?_
    refine CW.ret ?_
    refine Ends.seqr ?_
    exact Ends.ret1 rfl rfl ⟨rfl, hb1⟩
  · -- no
    have hli : lightN l = true := by simpa using hc1
    obtain ⟨hlen, hsum, hsz⟩ := light_sum hli
    refine CW.skip ?_
    refine Ends.next ?_
    refine CW.seq ?_
    refine CW.region ?_
    refine WL.v (Val.move rfl rfl) ?_ -- d8
    refine WL.call bodied38 rfl rfl (check38 _ _ _ h1 (by omega)) ?_
    rintro _ _ ⟨rfl, rfl⟩
    refine WL.v (Val.move rfl rfl) ?_ -- d10
    refine WL.call bodied39 rfl rfl (check39 _ _ _ h1 (by omega)) ?_
    rintro _ _ ⟨rfl, rfl⟩
    refine WL.v (Val.eqlI rfl rfl rfl) ?_ -- d12
    refine WL.v (Val.move rfl rfl) ?_ -- d13
    refine WL.yes rfl rfl rfl (decide_eq_true rfl) ?_
    refine WL.v (Val.move rfl rfl) ?_ -- d14
    refine WL.yes rfl rfl rfl (decide_eq_true rfl) ?_
    refine WL.call bodied32 rfl rfl (text32 _ _ _ h1 (by omega) (by omega)) ?_
    rintro _ w2 ⟨rfl, hb2⟩
    have h2 := h1.keep hb2
    refine WL.yes rfl rfl rfl (decide_eq_true rfl) ?_
    refine WL.v (Val.move rfl rfl) ?_ -- d16
    refine WL.yes rfl rfl rfl (decide_eq_true rfl) ?_
    refine WL.call bodied40 rfl rfl (text40 _ _ _ h2 (by omega) (by omega)) ?_
    rintro _ w3 ⟨rfl, hb3⟩
    have h3 := h2.keep hb3
    refine WL.yes rfl rfl rfl (decide_eq_true rfl) ?_
    refine WL.v (Val.eqlS rfl rfl rfl) ?_ -- d18
    refine WL.v (Val.pickT rfl rfl (decide_eq_true rfl) rfl) ?_ -- d19
    refine WL.v (Val.move rfl rfl) ?_ -- d20
    refine WL.yes rfl rfl rfl (decide_eq_true rfl) ?_
    refine WL.v (Val.move rfl rfl) ?_ -- d21
    refine WL.yes rfl rfl rfl (decide_eq_true rfl) ?_
    refine WL.call bodied33 rfl rfl (wire33 _ _ _ h3 (by rw [wireL_length]; omega)) ?_
    rintro r4 w4 ⟨hr4, hb4⟩
    have h4 := h3.keep hb4
    refine WL.yes rfl rfl rfl (decide_eq_true rfl) ?_
    refine WL.v (Val.move rfl rfl) ?_ -- d23
    refine WL.yes rfl rfl rfl (decide_eq_true rfl) ?_
    refine WL.call bodied41 rfl rfl (wire41 _ _ _ h4 (by rw [wireL_length]; omega)) ?_
    rintro r5 w5 ⟨hr5, hb5⟩
    have h5 := h4.keep hb5
    refine WL.yes rfl rfl rfl (decide_eq_true rfl) ?_
    refine WL.call bodied19 rfl rfl (bytes19 _ _ _ _ _ (hr4.keep hb5).sl hr5.sl) ?_
    rintro _ _ ⟨rfl, rfl⟩
    refine WL.v (Val.pickT rfl rfl (decide_eq_true rfl) rfl) ?_ -- d26
    refine WL.v (Val.move rfl rfl) ?_ -- d27
    refine WL.yes rfl rfl rfl (decide_eq_true rfl) ?_
    refine WL.v (Val.move rfl rfl) ?_ -- d28
    refine WL.yes rfl rfl rfl (decide_eq_true rfl) ?_
    refine WL.call bodied42 rfl rfl (lower42 _ _ _ h5 (by omega) (fun s hs => by have := hsz s hs; omega)) ?_
    rintro r6 w6 ⟨hr6, hb6⟩
    have h6 := h5.keep hb6
    refine WL.yes rfl rfl rfl (decide_eq_true rfl) ?_
    refine WL.v (Val.move rfl rfl) ?_ -- d30
    refine WL.yes rfl rfl rfl (decide_eq_true rfl) ?_
    refine WL.call bodied43 rfl rfl (lower43 _ _ _ h6 (by omega) (fun s hs => by have := hsz s hs; omega)) ?_
    rintro r7 w7 ⟨hr7, hb7⟩
    have h7 := h6.keep hb7
    refine WL.yes rfl rfl rfl (decide_eq_true rfl) ?_
    refine WL.call bodied30 rfl rfl (name30 _ _ _ _ _ (hr6.keep hb7).sl hr7.sl (by simp; omega)) ?_
    rintro _ w8 ⟨rfl, hb8⟩
    have h8 := h7.keep hb8
    refine WL.v (Val.pickT rfl rfl (decide_eq_true rfl) rfl) ?_ -- d33
    refine WL.v (Val.move rfl rfl) ?_ -- d34
    refine WL.yes rfl rfl rfl (decide_eq_true rfl) ?_
    refine WL.v (Val.move rfl rfl) ?_ -- d35
    refine WL.yes rfl rfl rfl (decide_eq_true rfl) ?_
    refine WL.call bodied44 rfl rfl (wild44 _ _ _ h8) ?_
    rintro _ _ ⟨rfl, rfl⟩
    refine WL.yes rfl rfl rfl (decide_eq_true rfl) ?_
    refine WL.v (Val.move rfl rfl) ?_ -- d37
    refine WL.yes rfl rfl rfl (decide_eq_true rfl) ?_
    refine WL.call bodied45 rfl rfl (wild45 _ _ _ h8) ?_
    rintro _ _ ⟨rfl, rfl⟩
    refine WL.yes rfl rfl rfl (decide_eq_true rfl) ?_
    refine WL.v (Val.eqlB Try.underlying4 rfl rfl rfl) ?_
    refine WL.v (Val.pickT rfl rfl (decide_eq_true rfl) rfl) ?_ -- d40
    refine WL.v (Val.assign rfl rfl) ?_ -- d2
    refine WL.nil ?_
    refine Ends.next ?_
    refine CW.ret ?_
    have s1 := hb1.size
    have t2 := hb2.mono s1
    have s2 := Nat.le_trans s1 hb2.size
    have t3 := hb3.mono s2
    have s3 := Nat.le_trans s2 hb3.size
    have t4 := hb4.mono s3
    have s4 := Nat.le_trans s3 hb4.size
    have t5 := hb5.mono s4
    have s5 := Nat.le_trans s4 hb5.size
    have t6 := hb6.mono s5
    have s6 := Nat.le_trans s5 hb6.size
    have t7 := hb7.mono s6
    have s7 := Nat.le_trans s6 hb7.size
    have t8 := hb8.mono s7
    exact Ends.ret1 rfl rfl ⟨congrArg Value.bool (by simp), (((((((hb1.trans t2).trans t3).trans t4).trans t5).trans t6).trans t7).trans t8)⟩
end Go.Proofs.Ytjdgckamjgldmaa
