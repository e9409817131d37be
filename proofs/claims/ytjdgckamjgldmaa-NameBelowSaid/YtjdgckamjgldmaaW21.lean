/- Walks: NameBelow. -/
import Derived.Test.YtjdgckamjgldmaaW20
namespace Go.Proofs.Ytjdgckamjgldmaa
open Go.RowKit Go.Eng

theorem cmpR_pre (a r : List ByteArray) (h : r ≠ []) : cmpR a (a ++ r) = -1 := by
  induction a with
  | nil =>
    cases r with
    | nil => exact absurd rfl h
    | cons x r => rfl
  | cons x a ih =>
    simp only [List.cons_append, cmpR]
    rw [if_pos (cmpB_refl _)]
    exact ih
theorem cmpN_below (l apex : List ByteArray) (h : l ≠ []) : cmpN apex (l ++ apex) = -1 := by
  rw [cmpN, List.reverse_append]
  exact cmpR_pre _ _ (by simpa using h)
theorem within_below (l apex : List ByteArray) : withinN (l ++ apex) apex = true := by
  rw [withinN, sameN_eq]
  have h1 : (l ++ apex).length - apex.length = l.length := by rw [List.length_append]; omega
  rw [h1, List.drop_left]
  simp
theorem cmpR_out (a o r : List ByteArray) (h : ¬ (a.length ≤ o.length ∧ (o.take a.length).map lowS = a.map lowS)) : cmpR a o = cmpR (a ++ r) o := by
  induction a generalizing o with
  | nil => exact absurd ⟨Nat.zero_le _, rfl⟩ h
  | cons x a ih =>
    cases o with
    | nil => rfl
    | cons y o =>
      simp only [List.cons_append, cmpR]
      by_cases hc : cmpB (bytes (lowS x)) (bytes (lowS y)) = 0
      · rw [if_pos hc, if_pos hc]
        refine ih o fun hh => h ⟨by simp only [List.length_cons]; omega, ?_⟩
        have hxy : lowS x = lowS y := bytes_inj (cmpB_eq hc)
        simp only [List.length_cons, List.take_succ_cons, List.map_cons, hxy, hh.2]
      · rw [if_neg hc, if_neg hc]
theorem cmpN_out (l apex o : List ByteArray) (h : withinN o apex = false) : cmpN apex o = cmpN (l ++ apex) o := by
  rw [cmpN, cmpN, List.reverse_append]
  refine cmpR_out _ _ _ fun hh => ?_
  have hle : apex.length ≤ o.length := by simpa using hh.1
  have hm := hh.2
  rw [List.length_reverse, List.take_reverse, List.map_reverse, List.map_reverse, List.reverse_inj] at hm
  rw [withinN, sameN_eq, decide_eq_true hle, hm] at h
  simp at h
section
variable {N : Nat} {ds : List Deferred} {e : Env} {w : World} {Q : Exit → Act → World → Prop} {ops : Array Oper} {rest : List Oper} {o : Oper}
theorem WL.apNL {s x : Operand} {d : Tmp} {base : Nat} {v u : Value} {l m : List ByteArray} (hown : OwnN w base v l) (hm : Nm w u m)
    (ho : o.op = .call { callee := .builtin .append, args := #[s, x], argTypes := #[23, 23] })
    (hs : Opd e s = some v) (hx : Opd e x = some u) (hn : l.length + m.length ≤ 8796093022208) (hb : base ≤ w.heap.size)
    (K : ∀ v' w', OwnN w' base v' (l ++ m) → w.grownBy w' v.ownBlock → (v'.ownBlock = v.ownBlock ∨ ∃ g, v'.ownBlock = some g ∧ w.heap.size ≤ g) → WL Try.prog N ds ops Q rest ((d, v') :: e) w')
    (hg : o.guard = none := by rfl) (hd : o.dst = some d := by rfl) (hdN : d < N := by decide) : WL Try.prog N ds ops Q (o :: rest) e w :=
  WL.app ty23 hown hm ho hs hx (by intro q hq; simp at hq; obtain ⟨b, _, rfl⟩ := hq; rfl) (by simp [maxLen]; omega) (by simp; omega) hb (fun v' w' h1 h2 h3 => K v' w' (by simpa [OwnN] using h1) h2 h3) hg hd hdN
end
-- signet/signetlaw3.NameBelow
theorem below8a (vl va vc : Value) (l a c : List ByteArray) (w : World) (hl : Nm w vl l) (ha : Nm w va a) (hc : Nm w vc c) (hl0 : 0 < (l.length : Int)) (hwi : withinN c a = true) : Runs Try.prog 8 #[vl, va, vc] w fun r w' => r = .bool true ∧ Below w.heap.size w w' := by
  obtain ⟨A, cc, hv, -⟩ := id hl
  rw [List.length_map] at hv
  subst hv
  refine enter (N := 63) (args := [_, _, _]) Try.func8 rfl rfl (Nat.le_of_ble_eq_true rfl) ?_
  refine CW.seq ?_
  refine CW.region ?_
  refine WL.v (Val.assign rfl rfl) ?_ -- d6
  refine WL.nil ?_
  refine Ends.next ?_
  refine CW.seq ?_
  refine CW.seq ?_
  refine CW.region ?_
  refine WL.call bodied25 rfl rfl (known25 w) ?_
  rintro _ w1 ⟨rfl, hb1⟩
  have hl1 := hl.keep hb1
  have ha1 := ha.keep hb1
  have hc1 := hc.keep hb1
  refine WL.v (Val.not rfl rfl) ?_ -- d9
  refine WL.nil ?_
  refine Ends.next ?_
  refine CW.condF rfl (rfl) ?_
  refine CW.skip ?_
  refine Ends.next ?_
  refine CW.seq ?_
  refine CW.seq ?_
  refine CW.region ?_
  refine WL.v (Val.move rfl rfl) ?_ -- d10
  refine WL.call bodied34 rfl rfl (light34 _ _ _ hl1) ?_
  rintro _ _ ⟨rfl, rfl⟩
  refine WL.v (Val.not rfl rfl) ?_ -- d12
  refine WL.v (Val.move rfl rfl) ?_ -- d13
  refine WL.or (j := 3) (seg := [_, _, _]) (r := ?r1) rfl rfl rfl rfl (fun hb17 HK17 => ?hT1) ?_
  case hT1 =>
    refine WL.yes rfl rfl rfl hb17 ?_
    refine WL.v (Val.move rfl rfl) ?_ -- d14
    refine WL.yes rfl rfl rfl hb17 ?_
    refine WL.call bodied34 rfl rfl (light34 _ _ _ ha1) ?_
    rintro _ _ ⟨rfl, rfl⟩
    refine WL.yes rfl rfl rfl hb17 ?_
    refine WL.v (Val.not rfl rfl) ?_ -- d16
    refine WL.v (Val.pickF rfl rfl hb17 rfl) ?_
    refine WL.forget rfl ?_; refine WL.forget rfl ?_; refine WL.forget rfl ?_
    exact HK17
  refine WL.v (Val.move rfl rfl) ?_ -- d18
  refine WL.or (j := 8) (seg := [_, _, _]) (r := ?r2) rfl rfl rfl rfl (fun hb22 HK22 => ?hT2) ?_
  case hT2 =>
    refine WL.yes rfl rfl rfl hb22 ?_
    refine WL.v (Val.move rfl rfl) ?_ -- d19
    refine WL.yes rfl rfl rfl hb22 ?_
    refine WL.call bodied34 rfl rfl (light34 _ _ _ hc1) ?_
    rintro _ _ ⟨rfl, rfl⟩
    refine WL.yes rfl rfl rfl hb22 ?_
    refine WL.v (Val.not rfl rfl) ?_ -- d21
    refine WL.v (Val.pickF rfl rfl hb22 rfl) ?_
    refine WL.forget rfl ?_; refine WL.forget rfl ?_; refine WL.forget rfl ?_
    exact HK22
  refine WL.nil ?_
  refine Ends.next ?_
  refine CW.cond rfl (fun hd1 => ?_) (fun hd1 => ?_)
  · -- yes
    refine CW.seq ?_
    refine CW.region ?_
    refine WL.v (Val.assign rfl rfl) ?_ -- d6
    refine WL.nil ?_
    refine Ends.next ?_
    refine CW.ret ?_
    refine Ends.seqr ?_
    exact Ends.ret1 rfl rfl ⟨rfl, hb1⟩
  · -- no
    simp only [Bool.or_eq_false_iff, Bool.not_eq_false'] at hd1
    obtain ⟨⟨ll, la⟩, lc⟩ := hd1
    have ol := light_sum ll
    have ol2 := light_sum la
    have oa := light_ok la
    have oc := light_ok lc
    have on : OkN (l ++ a) := ⟨by rw [List.length_append]; omega, fun s hs => by
      rcases List.mem_append.1 hs with h | h
      · have := ol.2.2 s h; omega
      · exact oa.2 s h⟩
    refine CW.skip ?_
    refine Ends.next ?_
    refine CW.seq ?_
    refine CW.region ?_
    refine WL.v (Val.move rfl rfl) ?_ -- d23
    refine WL.apNL (OwnN.nil _ w1.heap.size) hl1 rfl rfl rfl (by simp; omega) (Nat.le_refl _) (fun v2 w2 hown2 hg2 _ => ?_)
    have hb2 := (OwnN.nil w1 w1.heap.size).below hg2 (Nat.le_refl _)
    have ha2 := ha1.keep hb2
    have hc2 := hc1.keep hb2
    rw [List.nil_append] at hown2
    refine WL.v (Val.move rfl rfl) ?_ -- d25
    refine WL.apNL hown2 ha2 rfl rfl rfl (by omega) hb2.size (fun v3 w3 hown3 hg3 _ => ?_)
    have hb3 := hown2.below hg3 hb2.size
    have hb13 := hb2.trans hb3
    have ha3 := ha1.keep hb13
    have hc3 := hc1.keep hb13
    have hn3 : Nm w3 v3 (l ++ a) := hown3.sl
    have hB3 := hb1.trans (hb13.mono hb1.size)
    refine WL.v (Val.assign rfl rfl) ?_ -- d7
    refine WL.nil ?_
    refine Ends.next ?_
    refine CW.seq ?_
    refine CW.seq ?_
    refine CW.region ?_
    refine WL.v (Val.move rfl rfl) ?_ -- d27
    refine WL.v (Val.move rfl rfl) ?_ -- d28
    refine WL.call bodied35 rfl rfl (within35 _ _ _ _ _ hn3 ha3 on oa) ?_
    rw [within_below]
    rintro _ w4 ⟨rfl, hb4⟩
    have hB4 := hB3.trans (hb4.mono hB3.size)
    have ha4 := ha3.keep hb4
    have hc4 := hc3.keep hb4
    have hn4 := hn3.keep hb4
    refine WL.v (Val.not rfl rfl) ?_ -- d30
    refine WL.v (Val.move rfl rfl) ?_ -- d31
    refine WL.yes rfl rfl rfl (rfl) ?_
    refine WL.v (Val.move rfl rfl) ?_ -- d32
    refine WL.yes rfl rfl rfl (rfl) ?_
    refine WL.v (Val.move rfl rfl) ?_ -- d33
    refine WL.yes rfl rfl rfl (rfl) ?_
    refine WL.call bodied35 rfl rfl (within35 _ _ _ _ _ hc4 ha4 oc oa) ?_
    rintro _ w5 ⟨rfl, hb5⟩
    have hB5 := hB4.trans (hb5.mono hB4.size)
    have ha5 := ha4.keep hb5
    have hc5 := hc4.keep hb5
    have hn5 := hn4.keep hb5
    refine WL.yes rfl rfl rfl (rfl) ?_
    refine WL.v (Val.move rfl rfl) ?_ -- d35
    refine WL.yes rfl rfl rfl (rfl) ?_
    refine WL.v (Val.move rfl rfl) ?_ -- d36
    refine WL.yes rfl rfl rfl (rfl) ?_
    refine WL.call bodied36 rfl rfl (within36 _ _ _ _ _ hc5 ha5 oc oa) ?_
    rintro _ w6 ⟨rfl, hb6⟩
    have hB6 := hB5.trans (hb6.mono hB5.size)
    have ha6 := ha5.keep hb6
    have hc6 := hc5.keep hb6
    have hn6 := hn5.keep hb6
    refine WL.yes rfl rfl rfl (rfl) ?_
    refine WL.v (Val.neqB Try.underlying4 rfl rfl rfl) ?_
    refine WL.v (Val.pickF rfl rfl (rfl) rfl) ?_ -- d39
    refine WL.v (Val.move rfl rfl) ?_ -- d40
    -- at once
    refine WL.yes rfl rfl rfl (decide_eq_false (fun h => h rfl)) ?_
    refine WL.v (Val.move rfl rfl) ?_
    refine WL.yes rfl rfl rfl (decide_eq_false (fun h => h rfl)) ?_
    refine WL.v (Val.lenSl rfl Try.underlying23 rfl) ?_
    refine WL.yes rfl rfl rfl (decide_eq_false (fun h => h rfl)) ?_
    refine WL.v (Val.gtr rfl rfl rfl) ?_
    refine WL.yes rfl rfl rfl (decide_eq_false (fun h => h rfl)) ?_
    refine WL.v (Val.move rfl rfl) ?_
    refine WL.yes rfl rfl rfl (decide_eq_true hl0) ?_
    refine WL.v (Val.move rfl rfl) ?_
    refine WL.yes rfl rfl rfl (decide_eq_true hl0) ?_
    refine WL.v (Val.move rfl rfl) ?_
    refine WL.yes rfl rfl rfl (decide_eq_true hl0) ?_
    refine WL.call bodied37 rfl rfl (cmp37 _ _ _ _ _ ha6 hn6 oa on) ?_
    rintro _ w7 ⟨rfl, hb7⟩
    have hB7 := hB6.trans (hb7.mono hB6.size)
    have ha7 := ha6.keep hb7
    have hc7 := hc6.keep hb7
    have hn7 := hn6.keep hb7
    refine WL.yes rfl rfl rfl (decide_eq_true hl0) ?_
    refine WL.v (Val.neqI rfl rfl rfl) ?_
    refine WL.yes rfl rfl rfl (decide_eq_false (fun h => h rfl)) ?_
    refine WL.v (Val.pickT rfl rfl (decide_eq_true hl0) rfl) ?_
    refine WL.v (Val.pickF rfl rfl (decide_eq_false (fun h => h rfl)) rfl) ?_
    refine WL.nil ?_
    refine Ends.next ?_
    refine CW.condF rfl (decide_eq_false (fun h => h (cmpN_below l a (fun h0 => by rw [h0] at hl0; exact absurd hl0 (by decide))))) ?_
    refine CW.skip ?_
    refine Ends.next ?_
    refine CW.seq ?_
    refine CW.region ?_
    refine WL.v (Val.move rfl rfl) ?_ -- d51
    refine WL.v (Val.move rfl rfl) ?_ -- d52
    refine WL.call bodied35 rfl rfl (within35 _ _ _ _ _ hc7 ha7 oc oa) ?_
    rintro _ w8 ⟨rfl, hb8⟩
    have hB8 := hB7.trans (hb8.mono hB7.size)
    have ha8 := ha7.keep hb8
    have hc8 := hc7.keep hb8
    have hn8 := hn7.keep hb8
    refine WL.v (Val.move rfl rfl) ?_ -- d54
    refine WL.noB rfl rfl rfl (hwi) ?_ -- d55
    refine WL.noB rfl rfl rfl (hwi) ?_ -- d56
    refine WL.noB rfl rfl rfl (hwi) ?_ -- d57
    refine WL.noB rfl rfl rfl (hwi) ?_ -- d58
    refine WL.noB rfl rfl rfl (hwi) ?_ -- d59
    refine WL.noB rfl rfl rfl (hwi) ?_ -- d60
    refine WL.noB rfl rfl rfl (hwi) ?_ -- d61
    refine WL.v (Val.pickT rfl rfl (hwi) rfl) ?_ -- d62
    refine WL.v (Val.assign rfl rfl) ?_ -- d6
    refine WL.nil ?_
    refine Ends.next ?_
    refine CW.ret ?_
    exact Ends.ret1 rfl rfl ⟨rfl, hB8⟩
-- hook not used: d57
-- hook not used: d60
-- signet/signetlaw3.NameBelow
theorem below8b (vl va vc : Value) (l a c : List ByteArray) (w : World) (hl : Nm w vl l) (ha : Nm w va a) (hc : Nm w vc c) (hl0 : 0 < (l.length : Int)) (hwi : withinN c a = false) : Runs Try.prog 8 #[vl, va, vc] w fun r w' => r = .bool true ∧ Below w.heap.size w w' := by
  obtain ⟨A, cc, hv, -⟩ := id hl
  rw [List.length_map] at hv
  subst hv
  refine enter (N := 63) (args := [_, _, _]) Try.func8 rfl rfl (Nat.le_of_ble_eq_true rfl) ?_
  refine CW.seq ?_
  refine CW.region ?_
  refine WL.v (Val.assign rfl rfl) ?_ -- d6
  refine WL.nil ?_
  refine Ends.next ?_
  refine CW.seq ?_
  refine CW.seq ?_
  refine CW.region ?_
  refine WL.call bodied25 rfl rfl (known25 w) ?_
  rintro _ w1 ⟨rfl, hb1⟩
  have hl1 := hl.keep hb1
  have ha1 := ha.keep hb1
  have hc1 := hc.keep hb1
  refine WL.v (Val.not rfl rfl) ?_ -- d9
  refine WL.nil ?_
  refine Ends.next ?_
  refine CW.condF rfl (rfl) ?_
  refine CW.skip ?_
  refine Ends.next ?_
  refine CW.seq ?_
  refine CW.seq ?_
  refine CW.region ?_
  refine WL.v (Val.move rfl rfl) ?_ -- d10
  refine WL.call bodied34 rfl rfl (light34 _ _ _ hl1) ?_
  rintro _ _ ⟨rfl, rfl⟩
  refine WL.v (Val.not rfl rfl) ?_ -- d12
  refine WL.v (Val.move rfl rfl) ?_ -- d13
  refine WL.or (j := 3) (seg := [_, _, _]) (r := ?r1) rfl rfl rfl rfl (fun hb17 HK17 => ?hT1) ?_
  case hT1 =>
    refine WL.yes rfl rfl rfl hb17 ?_
    refine WL.v (Val.move rfl rfl) ?_ -- d14
    refine WL.yes rfl rfl rfl hb17 ?_
    refine WL.call bodied34 rfl rfl (light34 _ _ _ ha1) ?_
    rintro _ _ ⟨rfl, rfl⟩
    refine WL.yes rfl rfl rfl hb17 ?_
    refine WL.v (Val.not rfl rfl) ?_ -- d16
    refine WL.v (Val.pickF rfl rfl hb17 rfl) ?_
    refine WL.forget rfl ?_; refine WL.forget rfl ?_; refine WL.forget rfl ?_
    exact HK17
  refine WL.v (Val.move rfl rfl) ?_ -- d18
  refine WL.or (j := 8) (seg := [_, _, _]) (r := ?r2) rfl rfl rfl rfl (fun hb22 HK22 => ?hT2) ?_
  case hT2 =>
    refine WL.yes rfl rfl rfl hb22 ?_
    refine WL.v (Val.move rfl rfl) ?_ -- d19
    refine WL.yes rfl rfl rfl hb22 ?_
    refine WL.call bodied34 rfl rfl (light34 _ _ _ hc1) ?_
    rintro _ _ ⟨rfl, rfl⟩
    refine WL.yes rfl rfl rfl hb22 ?_
    refine WL.v (Val.not rfl rfl) ?_ -- d21
    refine WL.v (Val.pickF rfl rfl hb22 rfl) ?_
    refine WL.forget rfl ?_; refine WL.forget rfl ?_; refine WL.forget rfl ?_
    exact HK22
  refine WL.nil ?_
  refine Ends.next ?_
  refine CW.cond rfl (fun hd1 => ?_) (fun hd1 => ?_)
  · -- yes
    refine CW.seq ?_
    refine CW.region ?_
    refine WL.v (Val.assign rfl rfl) ?_ -- d6
    refine WL.nil ?_
    refine Ends.next ?_
    refine CW.ret ?_
    refine Ends.seqr ?_
    exact Ends.ret1 rfl rfl ⟨rfl, hb1⟩
  · -- no
    simp only [Bool.or_eq_false_iff, Bool.not_eq_false'] at hd1
    obtain ⟨⟨ll, la⟩, lc⟩ := hd1
    have ol := light_sum ll
    have ol2 := light_sum la
    have oa := light_ok la
    have oc := light_ok lc
    have on : OkN (l ++ a) := ⟨by rw [List.length_append]; omega, fun s hs => by
      rcases List.mem_append.1 hs with h | h
      · have := ol.2.2 s h; omega
      · exact oa.2 s h⟩
    refine CW.skip ?_
    refine Ends.next ?_
    refine CW.seq ?_
    refine CW.region ?_
    refine WL.v (Val.move rfl rfl) ?_ -- d23
    refine WL.apNL (OwnN.nil _ w1.heap.size) hl1 rfl rfl rfl (by simp; omega) (Nat.le_refl _) (fun v2 w2 hown2 hg2 _ => ?_)
    have hb2 := (OwnN.nil w1 w1.heap.size).below hg2 (Nat.le_refl _)
    have ha2 := ha1.keep hb2
    have hc2 := hc1.keep hb2
    rw [List.nil_append] at hown2
    refine WL.v (Val.move rfl rfl) ?_ -- d25
    refine WL.apNL hown2 ha2 rfl rfl rfl (by omega) hb2.size (fun v3 w3 hown3 hg3 _ => ?_)
    have hb3 := hown2.below hg3 hb2.size
    have hb13 := hb2.trans hb3
    have ha3 := ha1.keep hb13
    have hc3 := hc1.keep hb13
    have hn3 : Nm w3 v3 (l ++ a) := hown3.sl
    have hB3 := hb1.trans (hb13.mono hb1.size)
    refine WL.v (Val.assign rfl rfl) ?_ -- d7
    refine WL.nil ?_
    refine Ends.next ?_
    refine CW.seq ?_
    refine CW.seq ?_
    refine CW.region ?_
    refine WL.v (Val.move rfl rfl) ?_ -- d27
    refine WL.v (Val.move rfl rfl) ?_ -- d28
    refine WL.call bodied35 rfl rfl (within35 _ _ _ _ _ hn3 ha3 on oa) ?_
    rw [within_below]
    rintro _ w4 ⟨rfl, hb4⟩
    have hB4 := hB3.trans (hb4.mono hB3.size)
    have ha4 := ha3.keep hb4
    have hc4 := hc3.keep hb4
    have hn4 := hn3.keep hb4
    refine WL.v (Val.not rfl rfl) ?_ -- d30
    refine WL.v (Val.move rfl rfl) ?_ -- d31
    refine WL.yes rfl rfl rfl (rfl) ?_
    refine WL.v (Val.move rfl rfl) ?_ -- d32
    refine WL.yes rfl rfl rfl (rfl) ?_
    refine WL.v (Val.move rfl rfl) ?_ -- d33
    refine WL.yes rfl rfl rfl (rfl) ?_
    refine WL.call bodied35 rfl rfl (within35 _ _ _ _ _ hc4 ha4 oc oa) ?_
    rintro _ w5 ⟨rfl, hb5⟩
    have hB5 := hB4.trans (hb5.mono hB4.size)
    have ha5 := ha4.keep hb5
    have hc5 := hc4.keep hb5
    have hn5 := hn4.keep hb5
    refine WL.yes rfl rfl rfl (rfl) ?_
    refine WL.v (Val.move rfl rfl) ?_ -- d35
    refine WL.yes rfl rfl rfl (rfl) ?_
    refine WL.v (Val.move rfl rfl) ?_ -- d36
    refine WL.yes rfl rfl rfl (rfl) ?_
    refine WL.call bodied36 rfl rfl (within36 _ _ _ _ _ hc5 ha5 oc oa) ?_
    rintro _ w6 ⟨rfl, hb6⟩
    have hB6 := hB5.trans (hb6.mono hB5.size)
    have ha6 := ha5.keep hb6
    have hc6 := hc5.keep hb6
    have hn6 := hn5.keep hb6
    refine WL.yes rfl rfl rfl (rfl) ?_
    refine WL.v (Val.neqB Try.underlying4 rfl rfl rfl) ?_
    refine WL.v (Val.pickF rfl rfl (rfl) rfl) ?_ -- d39
    refine WL.v (Val.move rfl rfl) ?_ -- d40
    -- at once
    refine WL.yes rfl rfl rfl (decide_eq_false (fun h => h rfl)) ?_
    refine WL.v (Val.move rfl rfl) ?_
    refine WL.yes rfl rfl rfl (decide_eq_false (fun h => h rfl)) ?_
    refine WL.v (Val.lenSl rfl Try.underlying23 rfl) ?_
    refine WL.yes rfl rfl rfl (decide_eq_false (fun h => h rfl)) ?_
    refine WL.v (Val.gtr rfl rfl rfl) ?_
    refine WL.yes rfl rfl rfl (decide_eq_false (fun h => h rfl)) ?_
    refine WL.v (Val.move rfl rfl) ?_
    refine WL.yes rfl rfl rfl (decide_eq_true hl0) ?_
    refine WL.v (Val.move rfl rfl) ?_
    refine WL.yes rfl rfl rfl (decide_eq_true hl0) ?_
    refine WL.v (Val.move rfl rfl) ?_
    refine WL.yes rfl rfl rfl (decide_eq_true hl0) ?_
    refine WL.call bodied37 rfl rfl (cmp37 _ _ _ _ _ ha6 hn6 oa on) ?_
    rintro _ w7 ⟨rfl, hb7⟩
    have hB7 := hB6.trans (hb7.mono hB6.size)
    have ha7 := ha6.keep hb7
    have hc7 := hc6.keep hb7
    have hn7 := hn6.keep hb7
    refine WL.yes rfl rfl rfl (decide_eq_true hl0) ?_
    refine WL.v (Val.neqI rfl rfl rfl) ?_
    refine WL.yes rfl rfl rfl (decide_eq_false (fun h => h rfl)) ?_
    refine WL.v (Val.pickT rfl rfl (decide_eq_true hl0) rfl) ?_
    refine WL.v (Val.pickF rfl rfl (decide_eq_false (fun h => h rfl)) rfl) ?_
    refine WL.nil ?_
    refine Ends.next ?_
    refine CW.condF rfl (decide_eq_false (fun h => h (cmpN_below l a (fun h0 => by rw [h0] at hl0; exact absurd hl0 (by decide))))) ?_
    refine CW.skip ?_
    refine Ends.next ?_
    refine CW.seq ?_
    refine CW.region ?_
    refine WL.v (Val.move rfl rfl) ?_ -- d51
    refine WL.v (Val.move rfl rfl) ?_ -- d52
    refine WL.call bodied35 rfl rfl (within35 _ _ _ _ _ hc7 ha7 oc oa) ?_
    rintro _ w8 ⟨rfl, hb8⟩
    have hB8 := hB7.trans (hb8.mono hB7.size)
    have ha8 := ha7.keep hb8
    have hc8 := hc7.keep hb8
    have hn8 := hn7.keep hb8
    refine WL.v (Val.move rfl rfl) ?_ -- d54
    refine WL.yes rfl rfl rfl (hwi) ?_
    refine WL.v (Val.move rfl rfl) ?_ -- d55
    refine WL.yes rfl rfl rfl (hwi) ?_
    refine WL.v (Val.move rfl rfl) ?_ -- d56
    refine WL.yes rfl rfl rfl (hwi) ?_
    refine WL.call bodied37 rfl rfl (cmp37 _ _ _ _ _ ha8 hc8 oa oc) ?_
    rintro _ w9 ⟨rfl, hb9⟩
    have hB9 := hB8.trans (hb9.mono hB8.size)
    have ha9 := ha8.keep hb9
    have hc9 := hc8.keep hb9
    have hn9 := hn8.keep hb9
    refine WL.yes rfl rfl rfl (hwi) ?_
    refine WL.v (Val.move rfl rfl) ?_ -- d58
    refine WL.yes rfl rfl rfl (hwi) ?_
    refine WL.v (Val.move rfl rfl) ?_ -- d59
    refine WL.yes rfl rfl rfl (hwi) ?_
    refine WL.call bodied37 rfl rfl (cmp37 _ _ _ _ _ hn9 hc9 on oc) ?_
    rintro _ w10 ⟨rfl, hb10⟩
    have hB10 := hB9.trans (hb10.mono hB9.size)
    have ha10 := ha9.keep hb10
    have hc10 := hc9.keep hb10
    have hn10 := hn9.keep hb10
    refine WL.yes rfl rfl rfl (hwi) ?_
    refine WL.v (Val.eqlI rfl rfl rfl) ?_ -- d61
    refine WL.v (Val.pickF rfl rfl (hwi) rfl) ?_ -- d62
    refine WL.v (Val.assign rfl rfl) ?_ -- d6
    refine WL.nil ?_
    refine Ends.next ?_
    refine CW.ret ?_
    exact Ends.ret1 rfl rfl ⟨congrArg Value.bool (decide_eq_true (cmpN_out l a c hwi)), hB10⟩
-- signet/signetlaw3.NameBelow
theorem below8c (vl va vc : Value) (l a c : List ByteArray) (w : World) (hl : Nm w vl l) (ha : Nm w va a) (hc : Nm w vc c) (hl0 : ¬ 0 < (l.length : Int)) (hwi : withinN c a = true) : Runs Try.prog 8 #[vl, va, vc] w fun r w' => r = .bool true ∧ Below w.heap.size w w' := by
  obtain ⟨A, cc, hv, -⟩ := id hl
  rw [List.length_map] at hv
  subst hv
  refine enter (N := 63) (args := [_, _, _]) Try.func8 rfl rfl (Nat.le_of_ble_eq_true rfl) ?_
  refine CW.seq ?_
  refine CW.region ?_
  refine WL.v (Val.assign rfl rfl) ?_ -- d6
  refine WL.nil ?_
  refine Ends.next ?_
  refine CW.seq ?_
  refine CW.seq ?_
  refine CW.region ?_
  refine WL.call bodied25 rfl rfl (known25 w) ?_
  rintro _ w1 ⟨rfl, hb1⟩
  have hl1 := hl.keep hb1
  have ha1 := ha.keep hb1
  have hc1 := hc.keep hb1
  refine WL.v (Val.not rfl rfl) ?_ -- d9
  refine WL.nil ?_
  refine Ends.next ?_
  refine CW.condF rfl (rfl) ?_
  refine CW.skip ?_
  refine Ends.next ?_
  refine CW.seq ?_
  refine CW.seq ?_
  refine CW.region ?_
  refine WL.v (Val.move rfl rfl) ?_ -- d10
  refine WL.call bodied34 rfl rfl (light34 _ _ _ hl1) ?_
  rintro _ _ ⟨rfl, rfl⟩
  refine WL.v (Val.not rfl rfl) ?_ -- d12
  refine WL.v (Val.move rfl rfl) ?_ -- d13
  refine WL.or (j := 3) (seg := [_, _, _]) (r := ?r1) rfl rfl rfl rfl (fun hb17 HK17 => ?hT1) ?_
  case hT1 =>
    refine WL.yes rfl rfl rfl hb17 ?_
    refine WL.v (Val.move rfl rfl) ?_ -- d14
    refine WL.yes rfl rfl rfl hb17 ?_
    refine WL.call bodied34 rfl rfl (light34 _ _ _ ha1) ?_
    rintro _ _ ⟨rfl, rfl⟩
    refine WL.yes rfl rfl rfl hb17 ?_
    refine WL.v (Val.not rfl rfl) ?_ -- d16
    refine WL.v (Val.pickF rfl rfl hb17 rfl) ?_
    refine WL.forget rfl ?_; refine WL.forget rfl ?_; refine WL.forget rfl ?_
    exact HK17
  refine WL.v (Val.move rfl rfl) ?_ -- d18
  refine WL.or (j := 8) (seg := [_, _, _]) (r := ?r2) rfl rfl rfl rfl (fun hb22 HK22 => ?hT2) ?_
  case hT2 =>
    refine WL.yes rfl rfl rfl hb22 ?_
    refine WL.v (Val.move rfl rfl) ?_ -- d19
    refine WL.yes rfl rfl rfl hb22 ?_
    refine WL.call bodied34 rfl rfl (light34 _ _ _ hc1) ?_
    rintro _ _ ⟨rfl, rfl⟩
    refine WL.yes rfl rfl rfl hb22 ?_
    refine WL.v (Val.not rfl rfl) ?_ -- d21
    refine WL.v (Val.pickF rfl rfl hb22 rfl) ?_
    refine WL.forget rfl ?_; refine WL.forget rfl ?_; refine WL.forget rfl ?_
    exact HK22
  refine WL.nil ?_
  refine Ends.next ?_
  refine CW.cond rfl (fun hd1 => ?_) (fun hd1 => ?_)
  · -- yes
    refine CW.seq ?_
    refine CW.region ?_
    refine WL.v (Val.assign rfl rfl) ?_ -- d6
    refine WL.nil ?_
    refine Ends.next ?_
    refine CW.ret ?_
    refine Ends.seqr ?_
    exact Ends.ret1 rfl rfl ⟨rfl, hb1⟩
  · -- no
    simp only [Bool.or_eq_false_iff, Bool.not_eq_false'] at hd1
    obtain ⟨⟨ll, la⟩, lc⟩ := hd1
    have ol := light_sum ll
    have ol2 := light_sum la
    have oa := light_ok la
    have oc := light_ok lc
    have on : OkN (l ++ a) := ⟨by rw [List.length_append]; omega, fun s hs => by
      rcases List.mem_append.1 hs with h | h
      · have := ol.2.2 s h; omega
      · exact oa.2 s h⟩
    refine CW.skip ?_
    refine Ends.next ?_
    refine CW.seq ?_
    refine CW.region ?_
    refine WL.v (Val.move rfl rfl) ?_ -- d23
    refine WL.apNL (OwnN.nil _ w1.heap.size) hl1 rfl rfl rfl (by simp; omega) (Nat.le_refl _) (fun v2 w2 hown2 hg2 _ => ?_)
    have hb2 := (OwnN.nil w1 w1.heap.size).below hg2 (Nat.le_refl _)
    have ha2 := ha1.keep hb2
    have hc2 := hc1.keep hb2
    rw [List.nil_append] at hown2
    refine WL.v (Val.move rfl rfl) ?_ -- d25
    refine WL.apNL hown2 ha2 rfl rfl rfl (by omega) hb2.size (fun v3 w3 hown3 hg3 _ => ?_)
    have hb3 := hown2.below hg3 hb2.size
    have hb13 := hb2.trans hb3
    have ha3 := ha1.keep hb13
    have hc3 := hc1.keep hb13
    have hn3 : Nm w3 v3 (l ++ a) := hown3.sl
    have hB3 := hb1.trans (hb13.mono hb1.size)
    refine WL.v (Val.assign rfl rfl) ?_ -- d7
    refine WL.nil ?_
    refine Ends.next ?_
    refine CW.seq ?_
    refine CW.seq ?_
    refine CW.region ?_
    refine WL.v (Val.move rfl rfl) ?_ -- d27
    refine WL.v (Val.move rfl rfl) ?_ -- d28
    refine WL.call bodied35 rfl rfl (within35 _ _ _ _ _ hn3 ha3 on oa) ?_
    rw [within_below]
    rintro _ w4 ⟨rfl, hb4⟩
    have hB4 := hB3.trans (hb4.mono hB3.size)
    have ha4 := ha3.keep hb4
    have hc4 := hc3.keep hb4
    have hn4 := hn3.keep hb4
    refine WL.v (Val.not rfl rfl) ?_ -- d30
    refine WL.v (Val.move rfl rfl) ?_ -- d31
    refine WL.yes rfl rfl rfl (rfl) ?_
    refine WL.v (Val.move rfl rfl) ?_ -- d32
    refine WL.yes rfl rfl rfl (rfl) ?_
    refine WL.v (Val.move rfl rfl) ?_ -- d33
    refine WL.yes rfl rfl rfl (rfl) ?_
    refine WL.call bodied35 rfl rfl (within35 _ _ _ _ _ hc4 ha4 oc oa) ?_
    rintro _ w5 ⟨rfl, hb5⟩
    have hB5 := hB4.trans (hb5.mono hB4.size)
    have ha5 := ha4.keep hb5
    have hc5 := hc4.keep hb5
    have hn5 := hn4.keep hb5
    refine WL.yes rfl rfl rfl (rfl) ?_
    refine WL.v (Val.move rfl rfl) ?_ -- d35
    refine WL.yes rfl rfl rfl (rfl) ?_
    refine WL.v (Val.move rfl rfl) ?_ -- d36
    refine WL.yes rfl rfl rfl (rfl) ?_
    refine WL.call bodied36 rfl rfl (within36 _ _ _ _ _ hc5 ha5 oc oa) ?_
    rintro _ w6 ⟨rfl, hb6⟩
    have hB6 := hB5.trans (hb6.mono hB5.size)
    have ha6 := ha5.keep hb6
    have hc6 := hc5.keep hb6
    have hn6 := hn5.keep hb6
    refine WL.yes rfl rfl rfl (rfl) ?_
    refine WL.v (Val.neqB Try.underlying4 rfl rfl rfl) ?_
    refine WL.v (Val.pickF rfl rfl (rfl) rfl) ?_ -- d39
    refine WL.v (Val.move rfl rfl) ?_ -- d40
    -- at once
    refine WL.yes rfl rfl rfl (decide_eq_false (fun h => h rfl)) ?_
    refine WL.v (Val.move rfl rfl) ?_
    refine WL.yes rfl rfl rfl (decide_eq_false (fun h => h rfl)) ?_
    refine WL.v (Val.lenSl rfl Try.underlying23 rfl) ?_
    refine WL.yes rfl rfl rfl (decide_eq_false (fun h => h rfl)) ?_
    refine WL.v (Val.gtr rfl rfl rfl) ?_
    refine WL.yes rfl rfl rfl (decide_eq_false (fun h => h rfl)) ?_
    refine WL.v (Val.move rfl rfl) ?_
    refine WL.noB rfl rfl rfl (decide_eq_false hl0) ?_
    refine WL.noB rfl rfl rfl (decide_eq_false hl0) ?_
    refine WL.noB rfl rfl rfl (decide_eq_false hl0) ?_
    refine WL.noB rfl rfl rfl (decide_eq_false hl0) ?_
    refine WL.yes rfl rfl rfl (decide_eq_false (fun h => h rfl)) ?_
    refine WL.v (Val.pickF rfl rfl (decide_eq_false hl0) rfl) ?_
    have ha7 := ha6
    have hc7 := hc6
    have hn7 := hn6
    have hB7 := hB6
    refine WL.v (Val.pickF rfl rfl (decide_eq_false (fun h => h rfl)) rfl) ?_
    refine WL.nil ?_
    refine Ends.next ?_
    refine CW.condF rfl (rfl) ?_
    refine CW.skip ?_
    refine Ends.next ?_
    refine CW.seq ?_
    refine CW.region ?_
    refine WL.v (Val.move rfl rfl) ?_ -- d51
    refine WL.v (Val.move rfl rfl) ?_ -- d52
    refine WL.call bodied35 rfl rfl (within35 _ _ _ _ _ hc7 ha7 oc oa) ?_
    rintro _ w8 ⟨rfl, hb8⟩
    have hB8 := hB7.trans (hb8.mono hB7.size)
    have ha8 := ha7.keep hb8
    have hc8 := hc7.keep hb8
    have hn8 := hn7.keep hb8
    refine WL.v (Val.move rfl rfl) ?_ -- d54
    refine WL.noB rfl rfl rfl (hwi) ?_ -- d55
    refine WL.noB rfl rfl rfl (hwi) ?_ -- d56
    refine WL.noB rfl rfl rfl (hwi) ?_ -- d57
    refine WL.noB rfl rfl rfl (hwi) ?_ -- d58
    refine WL.noB rfl rfl rfl (hwi) ?_ -- d59
    refine WL.noB rfl rfl rfl (hwi) ?_ -- d60
    refine WL.noB rfl rfl rfl (hwi) ?_ -- d61
    refine WL.v (Val.pickT rfl rfl (hwi) rfl) ?_ -- d62
    refine WL.v (Val.assign rfl rfl) ?_ -- d6
    refine WL.nil ?_
    refine Ends.next ?_
    refine CW.ret ?_
    exact Ends.ret1 rfl rfl ⟨rfl, hB8⟩
-- hook not used: d57
-- hook not used: d60
-- signet/signetlaw3.NameBelow
theorem below8d (vl va vc : Value) (l a c : List ByteArray) (w : World) (hl : Nm w vl l) (ha : Nm w va a) (hc : Nm w vc c) (hl0 : ¬ 0 < (l.length : Int)) (hwi : withinN c a = false) : Runs Try.prog 8 #[vl, va, vc] w fun r w' => r = .bool true ∧ Below w.heap.size w w' := by
  obtain ⟨A, cc, hv, -⟩ := id hl
  rw [List.length_map] at hv
  subst hv
  refine enter (N := 63) (args := [_, _, _]) Try.func8 rfl rfl (Nat.le_of_ble_eq_true rfl) ?_
  refine CW.seq ?_
  refine CW.region ?_
  refine WL.v (Val.assign rfl rfl) ?_ -- d6
  refine WL.nil ?_
  refine Ends.next ?_
  refine CW.seq ?_
  refine CW.seq ?_
  refine CW.region ?_
  refine WL.call bodied25 rfl rfl (known25 w) ?_
  rintro _ w1 ⟨rfl, hb1⟩
  have hl1 := hl.keep hb1
  have ha1 := ha.keep hb1
  have hc1 := hc.keep hb1
  refine WL.v (Val.not rfl rfl) ?_ -- d9
  refine WL.nil ?_
  refine Ends.next ?_
  refine CW.condF rfl (rfl) ?_
  refine CW.skip ?_
  refine Ends.next ?_
  refine CW.seq ?_
  refine CW.seq ?_
  refine CW.region ?_
  refine WL.v (Val.move rfl rfl) ?_ -- d10
  refine WL.call bodied34 rfl rfl (light34 _ _ _ hl1) ?_
  rintro _ _ ⟨rfl, rfl⟩
  refine WL.v (Val.not rfl rfl) ?_ -- d12
  refine WL.v (Val.move rfl rfl) ?_ -- d13
  refine WL.or (j := 3) (seg := [_, _, _]) (r := ?r1) rfl rfl rfl rfl (fun hb17 HK17 => ?hT1) ?_
  case hT1 =>
    refine WL.yes rfl rfl rfl hb17 ?_
    refine WL.v (Val.move rfl rfl) ?_ -- d14
    refine WL.yes rfl rfl rfl hb17 ?_
    refine WL.call bodied34 rfl rfl (light34 _ _ _ ha1) ?_
    rintro _ _ ⟨rfl, rfl⟩
    refine WL.yes rfl rfl rfl hb17 ?_
    refine WL.v (Val.not rfl rfl) ?_ -- d16
    refine WL.v (Val.pickF rfl rfl hb17 rfl) ?_
    refine WL.forget rfl ?_; refine WL.forget rfl ?_; refine WL.forget rfl ?_
    exact HK17
  refine WL.v (Val.move rfl rfl) ?_ -- d18
  refine WL.or (j := 8) (seg := [_, _, _]) (r := ?r2) rfl rfl rfl rfl (fun hb22 HK22 => ?hT2) ?_
  case hT2 =>
    refine WL.yes rfl rfl rfl hb22 ?_
    refine WL.v (Val.move rfl rfl) ?_ -- d19
    refine WL.yes rfl rfl rfl hb22 ?_
    refine WL.call bodied34 rfl rfl (light34 _ _ _ hc1) ?_
    rintro _ _ ⟨rfl, rfl⟩
    refine WL.yes rfl rfl rfl hb22 ?_
    refine WL.v (Val.not rfl rfl) ?_ -- d21
    refine WL.v (Val.pickF rfl rfl hb22 rfl) ?_
    refine WL.forget rfl ?_; refine WL.forget rfl ?_; refine WL.forget rfl ?_
    exact HK22
  refine WL.nil ?_
  refine Ends.next ?_
  refine CW.cond rfl (fun hd1 => ?_) (fun hd1 => ?_)
  · -- yes
    refine CW.seq ?_
    refine CW.region ?_
    refine WL.v (Val.assign rfl rfl) ?_ -- d6
    refine WL.nil ?_
    refine Ends.next ?_
    refine CW.ret ?_
    refine Ends.seqr ?_
    exact Ends.ret1 rfl rfl ⟨rfl, hb1⟩
  · -- no
    simp only [Bool.or_eq_false_iff, Bool.not_eq_false'] at hd1
    obtain ⟨⟨ll, la⟩, lc⟩ := hd1
    have ol := light_sum ll
    have ol2 := light_sum la
    have oa := light_ok la
    have oc := light_ok lc
    have on : OkN (l ++ a) := ⟨by rw [List.length_append]; omega, fun s hs => by
      rcases List.mem_append.1 hs with h | h
      · have := ol.2.2 s h; omega
      · exact oa.2 s h⟩
    refine CW.skip ?_
    refine Ends.next ?_
    refine CW.seq ?_
    refine CW.region ?_
    refine WL.v (Val.move rfl rfl) ?_ -- d23
    refine WL.apNL (OwnN.nil _ w1.heap.size) hl1 rfl rfl rfl (by simp; omega) (Nat.le_refl _) (fun v2 w2 hown2 hg2 _ => ?_)
    have hb2 := (OwnN.nil w1 w1.heap.size).below hg2 (Nat.le_refl _)
    have ha2 := ha1.keep hb2
    have hc2 := hc1.keep hb2
    rw [List.nil_append] at hown2
    refine WL.v (Val.move rfl rfl) ?_ -- d25
    refine WL.apNL hown2 ha2 rfl rfl rfl (by omega) hb2.size (fun v3 w3 hown3 hg3 _ => ?_)
    have hb3 := hown2.below hg3 hb2.size
    have hb13 := hb2.trans hb3
    have ha3 := ha1.keep hb13
    have hc3 := hc1.keep hb13
    have hn3 : Nm w3 v3 (l ++ a) := hown3.sl
    have hB3 := hb1.trans (hb13.mono hb1.size)
    refine WL.v (Val.assign rfl rfl) ?_ -- d7
    refine WL.nil ?_
    refine Ends.next ?_
    refine CW.seq ?_
    refine CW.seq ?_
    refine CW.region ?_
    refine WL.v (Val.move rfl rfl) ?_ -- d27
    refine WL.v (Val.move rfl rfl) ?_ -- d28
    refine WL.call bodied35 rfl rfl (within35 _ _ _ _ _ hn3 ha3 on oa) ?_
    rw [within_below]
    rintro _ w4 ⟨rfl, hb4⟩
    have hB4 := hB3.trans (hb4.mono hB3.size)
    have ha4 := ha3.keep hb4
    have hc4 := hc3.keep hb4
    have hn4 := hn3.keep hb4
    refine WL.v (Val.not rfl rfl) ?_ -- d30
    refine WL.v (Val.move rfl rfl) ?_ -- d31
    refine WL.yes rfl rfl rfl (rfl) ?_
    refine WL.v (Val.move rfl rfl) ?_ -- d32
    refine WL.yes rfl rfl rfl (rfl) ?_
    refine WL.v (Val.move rfl rfl) ?_ -- d33
    refine WL.yes rfl rfl rfl (rfl) ?_
    refine WL.call bodied35 rfl rfl (within35 _ _ _ _ _ hc4 ha4 oc oa) ?_
    rintro _ w5 ⟨rfl, hb5⟩
    have hB5 := hB4.trans (hb5.mono hB4.size)
    have ha5 := ha4.keep hb5
    have hc5 := hc4.keep hb5
    have hn5 := hn4.keep hb5
    refine WL.yes rfl rfl rfl (rfl) ?_
    refine WL.v (Val.move rfl rfl) ?_ -- d35
    refine WL.yes rfl rfl rfl (rfl) ?_
    refine WL.v (Val.move rfl rfl) ?_ -- d36
    refine WL.yes rfl rfl rfl (rfl) ?_
    refine WL.call bodied36 rfl rfl (within36 _ _ _ _ _ hc5 ha5 oc oa) ?_
    rintro _ w6 ⟨rfl, hb6⟩
    have hB6 := hB5.trans (hb6.mono hB5.size)
    have ha6 := ha5.keep hb6
    have hc6 := hc5.keep hb6
    have hn6 := hn5.keep hb6
    refine WL.yes rfl rfl rfl (rfl) ?_
    refine WL.v (Val.neqB Try.underlying4 rfl rfl rfl) ?_
    refine WL.v (Val.pickF rfl rfl (rfl) rfl) ?_ -- d39
    refine WL.v (Val.move rfl rfl) ?_ -- d40
    -- at once
    refine WL.yes rfl rfl rfl (decide_eq_false (fun h => h rfl)) ?_
    refine WL.v (Val.move rfl rfl) ?_
    refine WL.yes rfl rfl rfl (decide_eq_false (fun h => h rfl)) ?_
    refine WL.v (Val.lenSl rfl Try.underlying23 rfl) ?_
    refine WL.yes rfl rfl rfl (decide_eq_false (fun h => h rfl)) ?_
    refine WL.v (Val.gtr rfl rfl rfl) ?_
    refine WL.yes rfl rfl rfl (decide_eq_false (fun h => h rfl)) ?_
    refine WL.v (Val.move rfl rfl) ?_
    refine WL.noB rfl rfl rfl (decide_eq_false hl0) ?_
    refine WL.noB rfl rfl rfl (decide_eq_false hl0) ?_
    refine WL.noB rfl rfl rfl (decide_eq_false hl0) ?_
    refine WL.noB rfl rfl rfl (decide_eq_false hl0) ?_
    refine WL.yes rfl rfl rfl (decide_eq_false (fun h => h rfl)) ?_
    refine WL.v (Val.pickF rfl rfl (decide_eq_false hl0) rfl) ?_
    have ha7 := ha6
    have hc7 := hc6
    have hn7 := hn6
    have hB7 := hB6
    refine WL.v (Val.pickF rfl rfl (decide_eq_false (fun h => h rfl)) rfl) ?_
    refine WL.nil ?_
    refine Ends.next ?_
    refine CW.condF rfl (rfl) ?_
    refine CW.skip ?_
    refine Ends.next ?_
    refine CW.seq ?_
    refine CW.region ?_
    refine WL.v (Val.move rfl rfl) ?_ -- d51
    refine WL.v (Val.move rfl rfl) ?_ -- d52
    refine WL.call bodied35 rfl rfl (within35 _ _ _ _ _ hc7 ha7 oc oa) ?_
    rintro _ w8 ⟨rfl, hb8⟩
    have hB8 := hB7.trans (hb8.mono hB7.size)
    have ha8 := ha7.keep hb8
    have hc8 := hc7.keep hb8
    have hn8 := hn7.keep hb8
    refine WL.v (Val.move rfl rfl) ?_ -- d54
    refine WL.yes rfl rfl rfl (hwi) ?_
    refine WL.v (Val.move rfl rfl) ?_ -- d55
    refine WL.yes rfl rfl rfl (hwi) ?_
    refine WL.v (Val.move rfl rfl) ?_ -- d56
    refine WL.yes rfl rfl rfl (hwi) ?_
    refine WL.call bodied37 rfl rfl (cmp37 _ _ _ _ _ ha8 hc8 oa oc) ?_
    rintro _ w9 ⟨rfl, hb9⟩
    have hB9 := hB8.trans (hb9.mono hB8.size)
    have ha9 := ha8.keep hb9
    have hc9 := hc8.keep hb9
    have hn9 := hn8.keep hb9
    refine WL.yes rfl rfl rfl (hwi) ?_
    refine WL.v (Val.move rfl rfl) ?_ -- d58
    refine WL.yes rfl rfl rfl (hwi) ?_
    refine WL.v (Val.move rfl rfl) ?_ -- d59
    refine WL.yes rfl rfl rfl (hwi) ?_
    refine WL.call bodied37 rfl rfl (cmp37 _ _ _ _ _ hn9 hc9 on oc) ?_
    rintro _ w10 ⟨rfl, hb10⟩
    have hB10 := hB9.trans (hb10.mono hB9.size)
    have ha10 := ha9.keep hb10
    have hc10 := hc9.keep hb10
    have hn10 := hn9.keep hb10
    refine WL.yes rfl rfl rfl (hwi) ?_
    refine WL.v (Val.eqlI rfl rfl rfl) ?_ -- d61
    refine WL.v (Val.pickF rfl rfl (hwi) rfl) ?_ -- d62
    refine WL.v (Val.assign rfl rfl) ?_ -- d6
    refine WL.nil ?_
    refine Ends.next ?_
    refine CW.ret ?_
    exact Ends.ret1 rfl rfl ⟨congrArg Value.bool (decide_eq_true (cmpN_out l a c hwi)), hB10⟩
theorem below8 (vl va vc : Value) (l a c : List ByteArray) (w : World) (hl : Nm w vl l) (ha : Nm w va a) (hc : Nm w vc c) : Runs Try.prog 8 #[vl, va, vc] w fun r w' => r = .bool true ∧ Below w.heap.size w w' := by
  by_cases hl0 : 0 < (l.length : Int)
  · cases hwi : withinN c a with
    | true => exact below8a vl va vc l a c w hl ha hc hl0 hwi
    | false => exact below8b vl va vc l a c w hl ha hc hl0 hwi
  · cases hwi : withinN c a with
    | true => exact below8c vl va vc l a c w hl ha hc hl0 hwi
    | false => exact below8d vl va vc l a c w hl ha hc hl0 hwi
end Go.Proofs.Ytjdgckamjgldmaa
