/- Walks: NameOrder. -/
import Derived.Test.YtjdgckamjgldmaaW18
namespace Go.Proofs.Ytjdgckamjgldmaa
open Go.RowKit Go.Eng

theorem lowB_low (c : UInt8) : lowB (lowB c) = lowB c := by
  by_cases h1 : 65 ≤ c.toNat ∧ c.toNat ≤ 90
  · obtain ⟨e1, e2⟩ := lowB_up h1
    rw [e1]
    exact lowB_same (by omega)
  · rw [lowB_same h1, lowB_same h1]
theorem cmpR_anti (a b : List ByteArray) : cmpR b a = - cmpR a b := by
  induction a generalizing b with
  | nil => cases b <;> simp [cmpR]
  | cons x a ih =>
    cases b with
    | nil => simp [cmpR]
    | cons y b =>
      simp only [cmpR]
      rw [cmpB_anti (bytes (lowS x)) (bytes (lowS y)), ih b]
      generalize cmpB (bytes (lowS x)) (bytes (lowS y)) = k
      by_cases h : k = 0
      · rw [if_pos h, if_pos (by omega)]
      · rw [if_neg h, if_neg (by omega)]
theorem cmpN_anti (a b : List ByteArray) : cmpN b a = - cmpN a b := cmpR_anti _ _
theorem cmpR_trans (a b c : List ByteArray) (h1 : cmpR a b ≤ 0) (h2 : cmpR b c ≤ 0) : cmpR a c ≤ 0 := by
  induction a generalizing b c with
  | nil => cases c <;> simp [cmpR]
  | cons x a ih =>
    cases b with
    | nil => simp [cmpR] at h1
    | cons y b =>
      cases c with
      | nil => simp [cmpR] at h2
      | cons z c =>
        simp only [cmpR] at h1 h2 ⊢
        have hxy : cmpB (bytes (lowS x)) (bytes (lowS y)) ≤ 0 := by
          by_cases h : cmpB (bytes (lowS x)) (bytes (lowS y)) = 0
          · omega
          · rw [if_neg h] at h1
            exact h1
        have hyz : cmpB (bytes (lowS y)) (bytes (lowS z)) ≤ 0 := by
          by_cases h : cmpB (bytes (lowS y)) (bytes (lowS z)) = 0
          · omega
          · rw [if_neg h] at h2
            exact h2
        obtain ⟨hxz, hz⟩ := cmpB_trans _ _ _ hxy hyz
        by_cases h : cmpB (bytes (lowS x)) (bytes (lowS z)) = 0
        · rw [if_pos h]
          obtain ⟨e1, e2⟩ := hz h
          rw [if_pos e1] at h1
          rw [if_pos e2] at h2
          exact ih b c h1 h2
        · rw [if_neg h]
          exact hxz
theorem cmpN_trans (a b c : List ByteArray) (h1 : cmpN a b ≤ 0) (h2 : cmpN b c ≤ 0) : cmpN a c ≤ 0 := cmpR_trans _ _ _ h1 h2
theorem lowS_low (s : ByteArray) : lowS (lowS s) = lowS s := by
  show mkS ((bytes (lowS s)).map lowB) = mkS ((bytes s).map lowB)
  rw [bytes_lowS, List.map_map]
  congr 1
  exact List.map_congr_left (fun c _ => lowB_low c)
theorem cmpR_low (a b : List ByteArray) : cmpR (a.map lowS) b = cmpR a b := by
  induction a generalizing b with
  | nil => rfl
  | cons x a ih =>
    cases b with
    | nil => rfl
    | cons y b =>
      simp only [List.map_cons, cmpR, lowS_low, ih]
theorem cmpN_low (a b : List ByteArray) : cmpN (a.map lowS) b = cmpN a b := by
  rw [cmpN, cmpN, ← List.map_reverse, cmpR_low]
theorem Val.neqB {e : Env} {o : Oper} {S : World → Prop} {P : Program} {x y : Operand} {tx ty : TypeId} {a b : Bool} (ht : P.underlying tx = some .bool) (ho : o.op = .binOp .neq tx x y ty) (hx : Opd e x = some (.bool a)) (hy : Opd e y = some (.bool b)) :
    Val P e o S (.bool (decide (a ≠ b))) := Val.bin ho hx hy fun w => by
  have h1 : eqGuard .neq tx x y (.bool a) (.bool b) = pure () := rfl
  have h2 : binOp .neq tx (.bool a) (.bool b) = (do pure (.bool (!(← Op.equal tx (.bool a) (.bool b))))) := rfl
  rw [h1, h2, Sem.run_bind, Sem.run_pure, Result.andThen_ok, Sem.run_bind, run_equal_bool ht, Result.andThen_ok, Sem.run_pure]
  cases a <;> cases b <;> rfl
theorem Val.neg {e : Env} {o : Oper} {S : World → Prop} {P : Program} {x : Operand} {t : TypeId} {k : IntKind} {a : Int} (ho : o.op = .unOp .neg t x) (hx : Opd e x = some (.int k a)) (c : Int) (hc : k.wrap (-a) = c) : Val P e o S (.int k c) := fun ρ hρ w _ => by
  subst hc
  simp [execOp, ho, hρ x _ hx, Op.unary, Op.intArith]
theorem cmpR_val (a b : List ByteArray) : cmpR a b = -1 ∨ cmpR a b = 0 ∨ cmpR a b = 1 := by
  induction a generalizing b with
  | nil => cases b <;> simp [cmpR]
  | cons x a ih =>
    cases b with
    | nil => simp [cmpR]
    | cons y b =>
      have h1 := cmpB_val (bytes (lowS x)) (bytes (lowS y))
      have h2 := ih b
      simp only [cmpR]
      by_cases h : cmpB (bytes (lowS x)) (bytes (lowS y)) = 0
      · rw [if_pos h]
        exact h2
      · rw [if_neg h]
        exact h1
theorem cmpN_val (a b : List ByteArray) : cmpN a b = -1 ∨ cmpN a b = 0 ∨ cmpN a b = 1 := cmpR_val _ _
-- signet/signetlaw3.NameOrder
theorem order12 (va vb vc : Value) (a b c : List ByteArray) (w : World) (ha : Nm w va a) (hb : Nm w vb b) (hc : Nm w vc c) : Runs Try.prog 12 #[va, vb, vc] w fun r w' => r = .bool true ∧ Below w.heap.size w w' := by
  refine enter (N := 83) (args := [_, _, _]) Try.func12 rfl rfl (Nat.le_of_ble_eq_true rfl) ?_
  refine CW.seq ?_
  refine CW.region ?_
  refine WL.v (Val.assign rfl rfl) ?_ -- d6
  refine WL.nil ?_
  refine Ends.next ?_
  refine CW.seq ?_
  refine CW.seq ?_
  refine CW.region ?_
  refine WL.call bodied25 rfl rfl (known25 w) ?_
  rintro _ w1 ⟨rfl, hb1⟩
  have ha1 := ha.keep hb1
  have hb_1 := hb.keep hb1
  have hc1 := hc.keep hb1
  refine WL.v (Val.not rfl rfl) ?_ -- d11
  refine WL.nil ?_
  refine Ends.next ?_
  refine CW.condF rfl (rfl) ?_
  refine CW.skip ?_
  refine Ends.next ?_
  refine CW.seq ?_
  refine CW.seq ?_
  refine CW.region ?_
  refine WL.v (Val.move rfl rfl) ?_ -- d12
  refine WL.call bodied34 rfl rfl (light34 _ _ _ ha1) ?_
  rintro _ _ ⟨rfl, rfl⟩
  refine WL.v (Val.not rfl rfl) ?_ -- d14
  refine WL.v (Val.move rfl rfl) ?_ -- d15
  refine WL.or (j := 3) (seg := [_, _, _]) (r := ?r1) rfl rfl rfl rfl (fun hb19 HK19 => ?hT1) ?_
  case hT1 =>
    refine WL.yes rfl rfl rfl hb19 ?_
    refine WL.v (Val.move rfl rfl) ?_ -- d16
    refine WL.yes rfl rfl rfl hb19 ?_
    refine WL.call bodied34 rfl rfl (light34 _ _ _ hb_1) ?_
    rintro _ _ ⟨rfl, rfl⟩
    refine WL.yes rfl rfl rfl hb19 ?_
    refine WL.v (Val.not rfl rfl) ?_ -- d18
    refine WL.v (Val.pickF rfl rfl hb19 rfl) ?_
    refine WL.forget rfl ?_; refine WL.forget rfl ?_; refine WL.forget rfl ?_
    exact HK19
  refine WL.v (Val.move rfl rfl) ?_ -- d20
  refine WL.or (j := 8) (seg := [_, _, _]) (r := ?r2) rfl rfl rfl rfl (fun hb24 HK24 => ?hT2) ?_
  case hT2 =>
    refine WL.yes rfl rfl rfl hb24 ?_
    refine WL.v (Val.move rfl rfl) ?_ -- d21
    refine WL.yes rfl rfl rfl hb24 ?_
    refine WL.call bodied34 rfl rfl (light34 _ _ _ hc1) ?_
    rintro _ _ ⟨rfl, rfl⟩
    refine WL.yes rfl rfl rfl hb24 ?_
    refine WL.v (Val.not rfl rfl) ?_ -- d23
    refine WL.v (Val.pickF rfl rfl hb24 rfl) ?_
    refine WL.forget rfl ?_; refine WL.forget rfl ?_; refine WL.forget rfl ?_
    exact HK24
  refine WL.nil ?_
  refine Ends.next ?_
  refine CW.cond rfl (fun hd1 => ?_) (fun hd1 => ?_)
  · -- yes
    refine CW.seq ?_
    refine CW.region ?_
    refine WL.v (Val.assign rfl rfl) ?_ -- d6
    refine WL.nil ?_
    refine Ends.next ?_
    refine CW.ret ?_
    refine Ends.seqr ?_
    exact Ends.ret1 rfl rfl ⟨rfl, hb1⟩
  · -- no
    simp only [Bool.or_eq_false_iff, Bool.not_eq_false'] at hd1
    obtain ⟨⟨la, lb⟩, lc⟩ := hd1
    have oa := light_ok la
    have ob := light_ok lb
    have oc := light_ok lc
    have hvab := cmpN_val a b
    refine CW.skip ?_
    refine Ends.next ?_
    refine CW.seq ?_
    refine CW.region ?_
    refine WL.v (Val.move rfl rfl) ?_ -- d25
    refine WL.v (Val.move rfl rfl) ?_ -- d26
    refine WL.call bodied37 rfl rfl (cmp37 _ _ _ _ _ ha1 hb_1 oa ob) ?_
    rintro _ w2 ⟨rfl, hb2⟩
    have ha2 := ha1.keep hb2
    have hb_2 := hb_1.keep hb2
    have hc2 := hc1.keep hb2
    refine WL.v (Val.move rfl rfl) ?_ -- d28
    refine WL.v (Val.move rfl rfl) ?_ -- d29
    refine WL.call bodied37 rfl rfl (cmp37 _ _ _ _ _ hb_2 hc2 ob oc) ?_
    rintro _ w3 ⟨rfl, hb3⟩
    have ha3 := ha2.keep hb3
    have hb_3 := hb_2.keep hb3
    have hc3 := hc2.keep hb3
    refine WL.v (Val.move rfl rfl) ?_ -- d31
    refine WL.v (Val.move rfl rfl) ?_ -- d32
    refine WL.call bodied37 rfl rfl (cmp37 _ _ _ _ _ ha3 hc3 oa oc) ?_
    rintro _ w4 ⟨rfl, hb4⟩
    have ha4 := ha3.keep hb4
    have hb_4 := hb_3.keep hb4
    have hc4 := hc3.keep hb4
    refine WL.v (Val.assign rfl rfl) ?_ -- d7
    refine WL.v (Val.assign rfl rfl) ?_ -- d8
    refine WL.v (Val.assign rfl rfl) ?_ -- d9
    refine WL.nil ?_
    refine Ends.next ?_
    refine CW.seq ?_
    refine CW.seq ?_
    refine CW.region ?_
    refine WL.v (Val.move rfl rfl) ?_ -- d34
    refine WL.v (Val.move rfl rfl) ?_ -- d35
    refine WL.v (Val.move rfl rfl) ?_ -- d36
    refine WL.call bodied46 rfl rfl (cmp46 _ _ _ _ _ ha4 hb_4 oa ob) ?_
    rintro _ w5 ⟨rfl, hb5⟩
    have ha5 := ha4.keep hb5
    have hb_5 := hb_4.keep hb5
    have hc5 := hc4.keep hb5
    refine WL.v (Val.neqI rfl rfl rfl) ?_ -- d38
    refine WL.v (Val.move rfl rfl) ?_ -- d39
    refine WL.yes rfl rfl rfl (decide_eq_false (fun h => h rfl)) ?_
    refine WL.v (Val.move rfl rfl) ?_ -- d40
    refine WL.yes rfl rfl rfl (decide_eq_false (fun h => h rfl)) ?_
    refine WL.v (Val.move rfl rfl) ?_ -- d41
    refine WL.yes rfl rfl rfl (decide_eq_false (fun h => h rfl)) ?_
    refine WL.call bodied37 rfl rfl (cmp37 _ _ _ _ _ hb_5 ha5 ob oa) ?_
    rintro _ w6 ⟨rfl, hb6⟩
    have ha6 := ha5.keep hb6
    have hb_6 := hb_5.keep hb6
    have hc6 := hc5.keep hb6
    refine WL.yes rfl rfl rfl (decide_eq_false (fun h => h rfl)) ?_
    refine WL.v (Val.move rfl rfl) ?_ -- d43
    refine WL.yes rfl rfl rfl (decide_eq_false (fun h => h rfl)) ?_
    refine WL.v (Val.neg rfl rfl _ (IntWalk.i64_in _ (by omega))) ?_
    refine WL.yes rfl rfl rfl (decide_eq_false (fun h => h rfl)) ?_
    refine WL.v (Val.neqI rfl rfl rfl) ?_ -- d45
    refine WL.v (Val.pickF rfl rfl (decide_eq_false (fun h => h rfl)) rfl) ?_ -- d46
    refine WL.v (Val.move rfl rfl) ?_ -- d47
    refine WL.yes rfl rfl rfl (decide_eq_false (fun h => h (cmpN_anti a b))) ?_
    refine WL.v (Val.move rfl rfl) ?_ -- d48
    refine WL.yes rfl rfl rfl (decide_eq_false (fun h => h (cmpN_anti a b))) ?_
    refine WL.v (Val.eqlI rfl rfl rfl) ?_ -- d49
    refine WL.yes rfl rfl rfl (decide_eq_false (fun h => h (cmpN_anti a b))) ?_
    refine WL.v (Val.move rfl rfl) ?_ -- d50
    refine WL.yes rfl rfl rfl (decide_eq_false (fun h => h (cmpN_anti a b))) ?_
    refine WL.v (Val.move rfl rfl) ?_ -- d51
    refine WL.yes rfl rfl rfl (decide_eq_false (fun h => h (cmpN_anti a b))) ?_
    refine WL.call bodied47 rfl rfl (same47 _ _ _ _ _ ha6 hb_6 oa ob) ?_
    rintro _ w7 ⟨rfl, hb7⟩
    have ha7 := ha6.keep hb7
    have hb_7 := hb_6.keep hb7
    have hc7 := hc6.keep hb7
    refine WL.yes rfl rfl rfl (decide_eq_false (fun h => h (cmpN_anti a b))) ?_
    refine WL.v (Val.neqB Try.underlying4 rfl rfl rfl) ?_
    refine WL.v (Val.pickF rfl rfl (decide_eq_false (fun h => h (cmpN_anti a b))) rfl) ?_ -- d54
    refine WL.v (Val.move rfl rfl) ?_ -- d55
    refine WL.yes rfl rfl rfl (decide_eq_false (fun h => h (by rw [sameN]))) ?_
    refine WL.v (Val.move rfl rfl) ?_ -- d56
    refine WL.yes rfl rfl rfl (decide_eq_false (fun h => h (by rw [sameN]))) ?_
    refine WL.v (Val.move rfl rfl) ?_ -- d57
    refine WL.yes rfl rfl rfl (decide_eq_false (fun h => h (by rw [sameN]))) ?_
    refine WL.call bodied47 rfl rfl (same47 _ _ _ _ _ ha7 hb_7 oa ob) ?_
    rintro _ w8 ⟨rfl, hb8⟩
    have ha8 := ha7.keep hb8
    have hb_8 := hb_7.keep hb8
    have hc8 := hc7.keep hb8
    refine WL.yes rfl rfl rfl (decide_eq_false (fun h => h (by rw [sameN]))) ?_
    refine WL.v (Val.move rfl rfl) ?_ -- d59
    refine WL.yes rfl rfl rfl (decide_eq_false (fun h => h (by rw [sameN]))) ?_
    refine WL.v (Val.move rfl rfl) ?_ -- d60
    refine WL.yes rfl rfl rfl (decide_eq_false (fun h => h (by rw [sameN]))) ?_
    refine WL.call bodied48 rfl rfl (same48 _ _ _ _ _ ha8 hb_8 oa ob) ?_
    rintro _ w9 ⟨rfl, hb9⟩
    have ha9 := ha8.keep hb9
    have hb_9 := hb_8.keep hb9
    have hc9 := hc8.keep hb9
    refine WL.yes rfl rfl rfl (decide_eq_false (fun h => h (by rw [sameN]))) ?_
    refine WL.v (Val.neqB Try.underlying4 rfl rfl rfl) ?_
    refine WL.v (Val.pickF rfl rfl (decide_eq_false (fun h => h (by rw [sameN]))) rfl) ?_ -- d63
    refine WL.v (Val.move rfl rfl) ?_ -- d64
    refine WL.yes rfl rfl rfl (decide_eq_false (fun h => h (by rw [sameN_eq]))) ?_
    refine WL.v (Val.move rfl rfl) ?_ -- d65
    refine WL.yes rfl rfl rfl (decide_eq_false (fun h => h (by rw [sameN_eq]))) ?_
    refine WL.call bodied42 rfl rfl (lower42 _ _ _ ha9 oa.1 (fun s hs => by have := oa.2 s hs; omega)) ?_
    rintro r10 w10 ⟨hr10, hb10⟩
    have hb_10 := hb_9.keep hb10
    refine WL.yes rfl rfl rfl (decide_eq_false (fun h => h (by rw [sameN_eq]))) ?_
    refine WL.v (Val.move rfl rfl) ?_ -- d67
    refine WL.yes rfl rfl rfl (decide_eq_false (fun h => h (by rw [sameN_eq]))) ?_
    refine WL.call bodied37 rfl rfl (cmp37 _ _ _ _ _ hr10.sl hb_10 ⟨by simp; exact oa.1, by intro s hs; simp at hs; obtain ⟨x, hx, rfl⟩ := hs; rw [size_lowS]; exact oa.2 x hx⟩ ob) ?_
    rintro _ w11 ⟨rfl, hb11⟩
    refine WL.yes rfl rfl rfl (decide_eq_false (fun h => h (by rw [sameN_eq]))) ?_
    refine WL.v (Val.move rfl rfl) ?_ -- d69
    refine WL.yes rfl rfl rfl (decide_eq_false (fun h => h (by rw [sameN_eq]))) ?_
    refine WL.v (Val.neqI rfl rfl rfl) ?_ -- d70
    refine WL.v (Val.pickF rfl rfl (decide_eq_false (fun h => h (by rw [sameN_eq]))) rfl) ?_ -- d71
    refine WL.nil ?_
    refine Ends.next ?_
    refine CW.condF rfl (decide_eq_false (fun h => h (cmpN_low a b))) ?_
    refine CW.skip ?_
    refine Ends.next ?_
    refine CW.seq ?_
    refine CW.region ?_
    refine WL.v (Val.move rfl rfl) ?_ -- d72
    refine WL.v (Val.leq rfl rfl rfl) ?_ -- d73
    refine WL.v (Val.move rfl rfl) ?_ -- d74
    refine WL.and (j := 2) (seg := [_, _]) (r := ?r3) rfl rfl rfl rfl (fun hb77 HK77 => ?hT3) ?_
    case hT3 =>
      refine WL.yes rfl rfl rfl hb77 ?_
      refine WL.v (Val.move rfl rfl) ?_ -- d75
      refine WL.yes rfl rfl rfl hb77 ?_
      refine WL.v (Val.leq rfl rfl rfl) ?_ -- d76
      refine WL.v (Val.pickT rfl rfl hb77 rfl) ?_
      refine WL.forget rfl ?_; refine WL.forget rfl ?_
      exact HK77
    refine WL.v (Val.not rfl rfl) ?_ -- d78
    refine WL.v (Val.move rfl rfl) ?_ -- d79
    refine WL.or (j := 7) (seg := [_, _]) (r := ?r4) rfl rfl rfl rfl (fun hb82 HK82 => ?hT4) ?_
    case hT4 =>
      refine WL.yes rfl rfl rfl hb82 ?_
      refine WL.v (Val.move rfl rfl) ?_ -- d80
      refine WL.yes rfl rfl rfl hb82 ?_
      refine WL.v (Val.leq rfl rfl rfl) ?_ -- d81
      refine WL.v (Val.pickF rfl rfl hb82 rfl) ?_
      refine WL.forget rfl ?_; refine WL.forget rfl ?_
      exact HK82
    refine WL.v (Val.assign rfl rfl) ?_ -- d6
    refine WL.nil ?_
    refine Ends.next ?_
    refine CW.ret ?_
    have s1 := hb1.size
    have t2 := hb2.mono s1
    have s2 := Nat.le_trans s1 hb2.size
    have t3 := hb3.mono s2
    have s3 := Nat.le_trans s2 hb3.size
    have t4 := hb4.mono s3
    have s4 := Nat.le_trans s3 hb4.size
    have t5 := hb5.mono s4
    have s5 := Nat.le_trans s4 hb5.size
    have t6 := hb6.mono s5
    have s6 := Nat.le_trans s5 hb6.size
    have t7 := hb7.mono s6
    have s7 := Nat.le_trans s6 hb7.size
    have t8 := hb8.mono s7
    have s8 := Nat.le_trans s7 hb8.size
    have t9 := hb9.mono s8
    have s9 := Nat.le_trans s8 hb9.size
    have t10 := hb10.mono s9
    have s10 := Nat.le_trans s9 hb10.size
    have t11 := hb11.mono s10
    refine Ends.ret1 rfl rfl ⟨congrArg Value.bool ?_, ((((((((((hb1.trans t2).trans t3).trans t4).trans t5).trans t6).trans t7).trans t8).trans t9).trans t10).trans t11)⟩
    by_cases h1 : cmpN a b ≤ 0
    · by_cases h2 : cmpN b c ≤ 0
      · simp [cmpN_trans a b c h1 h2]
      · simp [h2]
    · simp [h1]
end Go.Proofs.Ytjdgckamjgldmaa
