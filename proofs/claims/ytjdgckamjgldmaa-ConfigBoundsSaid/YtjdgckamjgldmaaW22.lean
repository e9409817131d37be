/- Walks: NameBack. -/
import Derived.Test.YtjdgckamjgldmaaW18
import Derived.Test.YtjdgckamjgldmaaSpecR
namespace Go.Proofs.Ytjdgckamjgldmaa
open Go.RowKit Go.Eng

-- signet/signetlaw3.NameBack
theorem back7 (vn vq : Value) (n : List ByteArray) (q : List UInt8) (w : World) (hn : Nm w vn n) (hq : Bs w vq q) : Runs Try.prog 7 #[vn, vq] w fun r w' => r = .bool true ∧ Below w.heap.size w w' := by
  obtain ⟨A, c, hv, -⟩ := id hq
  rw [List.length_map] at hv
  subst hv
  refine enter (N := 58) (args := [_, _]) Try.func7 rfl rfl (Nat.le_of_ble_eq_true rfl) ?_
  refine CW.seq ?_
  refine CW.region ?_
  refine WL.v (Val.assign rfl rfl) ?_ -- d4
  refine WL.nil ?_
  refine Ends.next ?_
  refine CW.seq ?_
  refine CW.seq ?_
  refine CW.region ?_
  refine WL.call bodied25 rfl rfl (known25 w) ?_
  rintro _ w1 ⟨rfl, hb1⟩
  have hn1 := hn.keep hb1
  have hq1 := hq.keep hb1
  refine WL.v (Val.not rfl rfl) ?_ -- d12
  refine WL.nil ?_
  refine Ends.next ?_
  refine CW.condF rfl (rfl) ?_
  refine CW.skip ?_
  refine Ends.next ?_
  refine CW.seq ?_
  refine CW.seq ?_
  refine CW.region ?_
  refine WL.v (Val.move rfl rfl) ?_ -- d13
  refine WL.call bodied31 rfl rfl (right31 _ _ _ hn1) ?_
  rintro _ _ ⟨rfl, rfl⟩
  refine WL.v (Val.not rfl rfl) ?_ -- d15
  refine WL.v (Val.move rfl rfl) ?_ -- d16
  refine WL.or (j := 3) (seg := [_, _, _]) (r := ?r1) rfl rfl rfl rfl (fun hb20 HK20 => ?hT1) ?_
  case hT1 =>
    refine WL.yes rfl rfl rfl hb20 ?_
    refine WL.v (Val.move rfl rfl) ?_ -- d17
    refine WL.yes rfl rfl rfl hb20 ?_
    refine WL.v (Val.lenSl rfl Try.underlying25 rfl) ?_ -- d18
    refine WL.yes rfl rfl rfl hb20 ?_
    refine WL.v (Val.gtr rfl rfl rfl) ?_ -- d19
    refine WL.v (Val.pickF rfl rfl hb20 rfl) ?_
    refine WL.forget rfl ?_; refine WL.forget rfl ?_; refine WL.forget rfl ?_
    exact HK20
  refine WL.nil ?_
  refine Ends.next ?_
  refine CW.cond rfl (fun hc1 => ?_) (fun hc1 => ?_)
  · -- yes
    refine CW.seq ?_
    refine CW.region ?_
    refine WL.v (Val.assign rfl rfl) ?_ -- d4
    refine WL.nil ?_
    refine Ends.next ?_
    refine CW.ret ?_
    refine Ends.seqr ?_
    exact Ends.ret1 rfl rfl ⟨rfl, hb1⟩
  · -- no
    simp only [Bool.or_eq_false_iff, Bool.not_eq_false', decide_eq_false_iff_not] at hc1
    obtain ⟨hr, hql⟩ := hc1
    obtain ⟨p1, p2, p3⟩ := right_parts hr
    have htl := textN_le n
    have hwl := wireL_length n
    refine CW.skip ?_
    refine Ends.next ?_
    refine CW.seq ?_
    refine CW.region ?_
    refine WL.v (Val.move rfl rfl) ?_ -- d22
    refine WL.call bodied32 rfl rfl (text32 _ _ _ hn1 (by omega) (by omega)) ?_
    rintro _ w2 ⟨rfl, hb2⟩
    have hn2 := hn1.keep hb2
    have hq2 := hq1.keep hb2
    refine WL.call bodied26 rfl rfl (parse26 _ _ (by rw [size_mkS]; omega)) ?_
    rw [bytes_mkS, parse_text hr]
    rintro _ w3 ⟨pv, rfl, hp3, hb3⟩
    have hn3 := hn2.keep hb3
    have hq3 := hq2.keep hb3
    refine WL.v (Val.move rfl rfl) ?_ -- d21
    refine WL.v (Val.extract rfl rfl rfl) ?_ -- d25
    refine WL.v (Val.extract rfl rfl rfl) ?_ -- d26
    refine WL.v (Val.assign rfl rfl) ?_ -- d5
    refine WL.v (Val.assign rfl rfl) ?_ -- d6
    refine WL.nil ?_
    refine Ends.next ?_
    refine CW.seq ?_
    refine CW.region ?_
    refine WL.v (Val.move rfl rfl) ?_ -- d27
    refine WL.call bodied33 rfl rfl (wire33 _ _ _ hn3 (by omega)) ?_
    rintro r4 w4 ⟨hr4, hb4⟩
    have hn4 := hn3.keep hb4
    have hq4 := hq3.keep hb4
    have hp4 := hp3.keep hb4
    have hs4 : Bs w4 r4 (wireL n ++ [0]) := hr4.sl
    obtain ⟨A4, c4, hv4, -⟩ := id hs4
    subst hv4
    refine WL.v (Val.assign rfl rfl) ?_ -- d7
    refine WL.nil ?_
    refine Ends.next ?_
    refine CW.seq ?_
    refine CW.region ?_
    refine WL.v (Val.move rfl rfl) ?_ -- d30
    refine WL.apL (OwnB.nil _ w4.heap.size) hs4 rfl rfl rfl (by simp; omega) (Nat.le_refl _) (fun v5 w5 hown5 hg5 _ => ?_)
    have hb5 := (OwnB.nil w4 w4.heap.size).below hg5 (Nat.le_refl _)
    have hn5 := hn4.keep hb5
    have hq5 := hq4.keep hb5
    have hp5 := hp4.keep hb5
    rw [List.nil_append] at hown5
    refine WL.v (Val.move rfl rfl) ?_ -- d32
    refine WL.apL hown5 hq5 rfl rfl rfl (by simp; omega) hb5.size (fun v6 w6 hown6 hg6 _ => ?_)
    have hb6 := hown5.below hg6 hb5.size
    have hb56 := hb5.trans hb6
    have hn6 := hn4.keep hb56
    have hp6 := hp4.keep hb56
    refine WL.call bodied28 rfl rfl (open28 _ _ _ hown6.sl (by simp; omega)) ?_
    rw [open_wire hr]
    rintro _ w7 ⟨ov, rfl, ho7, hb7⟩
    have hn7 := hn6.keep hb7
    have hp7 := hp6.keep hb7
    refine WL.v (Val.move rfl rfl) ?_ -- d29
    refine WL.v (Val.extract rfl rfl rfl) ?_ -- d35
    refine WL.v (Val.extract rfl rfl rfl) ?_ -- d36
    refine WL.v (Val.extract rfl rfl rfl) ?_ -- d37
    refine WL.v (Val.assign rfl rfl) ?_ -- d8
    refine WL.v (Val.assign rfl rfl) ?_ -- d9
    refine WL.v (Val.assign rfl rfl) ?_ -- d10
    refine WL.nil ?_
    refine Ends.next ?_
    refine CW.seq ?_
    refine CW.region ?_
    refine WL.v (Val.move rfl rfl) ?_ -- d38
    refine WL.v (Val.move rfl rfl) ?_ -- d39
    refine WL.v (Val.add rfl rfl rfl _ (show IntKind.i64.wrap ((0 : Int) + 0) = 0 from rfl)) ?_
    refine WL.v (Val.eqlI rfl rfl rfl) ?_ -- d41
    refine WL.v (Val.move rfl rfl) ?_ -- d42
    refine WL.yes rfl rfl rfl (rfl) ?_
    refine WL.v (Val.move rfl rfl) ?_ -- d43
    refine WL.yes rfl rfl rfl (rfl) ?_
    refine WL.v (Val.move rfl rfl) ?_ -- d44
    refine WL.yes rfl rfl rfl (rfl) ?_
    refine WL.call bodied30 rfl rfl (name30 _ _ _ _ _ hp7 hn7 (by show n.length ≤ _; omega)) ?_
    rw [decide_eq_true rfl]
    rintro _ w8 ⟨rfl, hb8⟩
    have hn8 := hn7.keep hb8
    have ho8 := ho7.keep hb8
    refine WL.v (Val.pickT rfl rfl (rfl) rfl) ?_ -- d46
    refine WL.v (Val.move rfl rfl) ?_ -- d47
    refine WL.yes rfl rfl rfl (rfl) ?_
    refine WL.v (Val.move rfl rfl) ?_ -- d48
    refine WL.yes rfl rfl rfl (rfl) ?_
    refine WL.v (Val.move rfl rfl) ?_ -- d49
    refine WL.yes rfl rfl rfl (rfl) ?_
    refine WL.call bodied30 rfl rfl (name30 _ _ _ _ _ ho8 hn8 (by show n.length ≤ _; omega)) ?_
    rw [decide_eq_true rfl]
    rintro _ w9 ⟨rfl, hb9⟩
    refine WL.v (Val.pickT rfl rfl (rfl) rfl) ?_ -- d51
    refine WL.v (Val.move rfl rfl) ?_ -- d52
    refine WL.yes rfl rfl rfl (rfl) ?_
    refine WL.v (Val.move rfl rfl) ?_ -- d53
    refine WL.yes rfl rfl rfl (rfl) ?_
    refine WL.v (Val.move rfl rfl) ?_ -- d54
    refine WL.yes rfl rfl rfl (rfl) ?_
    refine WL.v (Val.lenSl rfl Try.underlying25 rfl) ?_ -- d55
    refine WL.yes rfl rfl rfl (rfl) ?_
    refine WL.v (Val.eqlI rfl rfl rfl) ?_ -- d56
    refine WL.v (Val.pickT rfl rfl (rfl) rfl) ?_ -- d57
    refine WL.v (Val.assign rfl rfl) ?_ -- d4
    refine WL.nil ?_
    refine Ends.next ?_
    refine CW.ret ?_
    have s1 := hb1.size
    have t2 := hb2.mono s1
    have s2 := Nat.le_trans s1 hb2.size
    have t3 := hb3.mono s2
    have s3 := Nat.le_trans s2 hb3.size
    have t4 := hb4.mono s3
    have s4 := Nat.le_trans s3 hb4.size
    have t56 := hb56.mono s4
    have s6 := Nat.le_trans s4 hb56.size
    have t7 := hb7.mono s6
    have s7 := Nat.le_trans s6 hb7.size
    have t8 := hb8.mono s7
    have s8 := Nat.le_trans s7 hb8.size
    have t9 := hb9.mono s8
    exact Ends.ret1 rfl rfl ⟨congrArg Value.bool (decide_eq_true (by simp)), (((((((hb1.trans t2).trans t3).trans t4).trans t56).trans t7).trans t8).trans t9)⟩
-- hook not used: r21
end Go.Proofs.Ytjdgckamjgldmaa
