/- Walks: NameReads. -/
import Derived.Test.YtjdgckamjgldmaaW18
namespace Go.Proofs.Ytjdgckamjgldmaa
open Go.RowKit Go.Eng

theorem bodied29 : Bodied Try.prog 29 := bodied Try.func29 rfl rfl
theorem parse_len (b : List UInt8) : (parseN b).1.length ≤ b.length + 1 := by
  unfold parseN
  cases h : readP b with
  | none => simp
  | some n =>
    have := read_len h
    by_cases hc : checkN n = 0
    · simp [hc]; omega
    · simp [hc]
theorem open_len (b : List UInt8) : (openN b).1.length ≤ b.length := by
  rw [← caught_open, openR]
  cases h : openF (b.length + 1) b 0 [] with
  | none => simp [caughtS]
  | some p =>
    obtain ⟨n, k⟩ := p
    obtain ⟨j, rfl, hr, hj⟩ := openF_read (acc := []) ⟨rfl, by simp⟩ h
    have := hr.1
    by_cases hc : checkN n = 0
    · simp [caughtS, hc]; omega
    · simp [caughtS, hc]
-- signet/signetlaw3.NameReads
theorem reads6 (t : ByteArray) (v : Value) (b : List UInt8) (w : World) (h : Bs w v b) : Runs Try.prog 6 #[sv t, v] w fun r w' => r = .bool true ∧ Below w.heap.size w w' := by
  obtain ⟨A, c, hv, -⟩ := id h
  rw [List.length_map] at hv
  subst hv
  refine enter (N := 70) (args := [_, _]) Try.func6 rfl rfl (Nat.le_of_ble_eq_true rfl) ?_
  refine CW.seq ?_
  refine CW.region ?_
  refine WL.v (Val.assign rfl rfl) ?_ -- d4
  refine WL.nil ?_
  refine Ends.next ?_
  refine CW.seq ?_
  refine CW.seq ?_
  refine CW.region ?_
  refine WL.call bodied25 rfl rfl (known25 w) ?_
  rintro _ w1 ⟨rfl, hb1⟩
  have h1 := h.keep hb1
  refine WL.v (Val.not rfl rfl) ?_ -- d16
  refine WL.nil ?_
  refine Ends.next ?_
  refine CW.condF rfl (rfl) ?_
  refine CW.skip ?_
  refine Ends.next ?_
  refine CW.seq ?_
  refine CW.seq ?_
  refine CW.region ?_
  refine WL.v (Val.move rfl rfl) ?_ -- d17
  refine WL.v (Val.lenStr rfl Try.underlying9 rfl) ?_ -- d18
  refine WL.v (Val.gtr rfl rfl rfl) ?_ -- d19
  refine WL.v (Val.move rfl rfl) ?_ -- d20
  refine WL.or (j := 3) (seg := [_, _, _]) (r := ?r1) rfl rfl rfl rfl (fun hb24 HK24 => ?hT1) ?_
  case hT1 =>
    refine WL.yes rfl rfl rfl hb24 ?_
    refine WL.v (Val.move rfl rfl) ?_ -- d21
    refine WL.yes rfl rfl rfl hb24 ?_
    refine WL.v (Val.lenSl rfl Try.underlying25 rfl) ?_ -- d22
    refine WL.yes rfl rfl rfl hb24 ?_
    refine WL.v (Val.gtr rfl rfl rfl) ?_ -- d23
    refine WL.v (Val.pickF rfl rfl hb24 rfl) ?_
    refine WL.forget rfl ?_; refine WL.forget rfl ?_; refine WL.forget rfl ?_
    exact HK24
  refine WL.nil ?_
  refine Ends.next ?_
  refine CW.cond rfl (fun hc1 => ?_) (fun hc1 => ?_)
  · -- yes
    refine CW.seq ?_
    refine CW.region ?_
    refine WL.v (Val.assign rfl rfl) ?_ -- d4
    refine WL.nil ?_
    refine Ends.next ?_
    refine CW.ret ?_
    refine Ends.seqr ?_
    exact Ends.ret1 rfl rfl ⟨rfl, hb1⟩
  · -- no
    simp only [Bool.or_eq_false_iff, decide_eq_false_iff_not] at hc1
    have hts : t.size ≤ 1000 := by omega
    have hbs : b.length ≤ 1000 := by omega
    have htl : (bytes t).length ≤ 1000 := by rw [bytes_length]; exact hts
    have hpl := parse_len (bytes t)
    have hol := open_len b
    refine CW.skip ?_
    refine Ends.next ?_
    refine CW.seq ?_
    refine CW.region ?_
    refine WL.v (Val.move rfl rfl) ?_ -- d26
    refine WL.call bodied26 rfl rfl (parse26 _ _ (by omega)) ?_
    rintro _ w2 ⟨nv, rfl, hnv, hb2⟩
    have h2 := h1.keep hb2
    refine WL.v (Val.move rfl rfl) ?_ -- d25
    refine WL.v (Val.extract rfl rfl rfl) ?_ -- d28
    refine WL.v (Val.extract rfl rfl rfl) ?_ -- d29
    refine WL.v (Val.assign rfl rfl) ?_ -- d5
    refine WL.v (Val.assign rfl rfl) ?_ -- d6
    refine WL.nil ?_
    refine Ends.next ?_
    refine CW.seq ?_
    refine CW.region ?_
    refine WL.v (Val.move rfl rfl) ?_ -- d31
    refine WL.call bodied27 rfl rfl (parse27 _ _ (by omega)) ?_
    rintro _ w3 ⟨mv, rfl, hmv, hb3⟩
    have h3 := h2.keep hb3
    refine WL.v (Val.move rfl rfl) ?_ -- d30
    refine WL.v (Val.extract rfl rfl rfl) ?_ -- d33
    refine WL.v (Val.extract rfl rfl rfl) ?_ -- d34
    refine WL.v (Val.assign rfl rfl) ?_ -- d7
    refine WL.v (Val.assign rfl rfl) ?_ -- d8
    refine WL.nil ?_
    refine Ends.next ?_
    refine CW.seq ?_
    refine CW.region ?_
    refine WL.v (Val.move rfl rfl) ?_ -- d36
    refine WL.call bodied28 rfl rfl (open28 _ _ _ h3 (by omega)) ?_
    rintro _ w4 ⟨xv, rfl, hxv, hb4⟩
    have h4 := h3.keep hb4
    refine WL.v (Val.move rfl rfl) ?_ -- d35
    refine WL.v (Val.extract rfl rfl rfl) ?_ -- d38
    refine WL.v (Val.extract rfl rfl rfl) ?_ -- d39
    refine WL.v (Val.extract rfl rfl rfl) ?_ -- d40
    refine WL.v (Val.assign rfl rfl) ?_ -- d9
    refine WL.v (Val.assign rfl rfl) ?_ -- d10
    refine WL.v (Val.assign rfl rfl) ?_ -- d11
    refine WL.nil ?_
    refine Ends.next ?_
    refine CW.seq ?_
    refine CW.region ?_
    refine WL.v (Val.move rfl rfl) ?_ -- d42
    refine WL.call bodied29 rfl rfl (open29 _ _ _ h4 (by omega)) ?_
    rintro _ w5 ⟨yv, rfl, hyv, hb5⟩
    have hnv5 := ((hnv.keep hb3).keep hb4).keep hb5
    have hmv5 := (hmv.keep hb4).keep hb5
    have hxv5 := hxv.keep hb5
    refine WL.v (Val.move rfl rfl) ?_ -- d41
    refine WL.v (Val.extract rfl rfl rfl) ?_ -- d44
    refine WL.v (Val.extract rfl rfl rfl) ?_ -- d45
    refine WL.v (Val.extract rfl rfl rfl) ?_ -- d46
    refine WL.v (Val.assign rfl rfl) ?_ -- d12
    refine WL.v (Val.assign rfl rfl) ?_ -- d13
    refine WL.v (Val.assign rfl rfl) ?_ -- d14
    refine WL.nil ?_
    refine Ends.next ?_
    refine CW.seq ?_
    refine CW.region ?_
    refine WL.v (Val.move rfl rfl) ?_ -- d47
    refine WL.v (Val.move rfl rfl) ?_ -- d48
    refine WL.v (Val.eqlI rfl rfl rfl) ?_ -- d49
    refine WL.v (Val.move rfl rfl) ?_ -- d50
    refine WL.yes rfl rfl rfl (decide_eq_true rfl) ?_
    refine WL.v (Val.move rfl rfl) ?_ -- d51
    refine WL.yes rfl rfl rfl (decide_eq_true rfl) ?_
    refine WL.v (Val.move rfl rfl) ?_ -- d52
    refine WL.yes rfl rfl rfl (decide_eq_true rfl) ?_
    refine WL.call bodied30 rfl rfl (name30 _ _ _ _ _ hnv5 hmv5 (by omega)) ?_
    rintro _ w6 ⟨rfl, hb6⟩
    refine WL.v (Val.pickT rfl rfl (decide_eq_true rfl) rfl) ?_ -- d54
    refine WL.v (Val.move rfl rfl) ?_ -- d55
    refine WL.yes rfl rfl rfl (decide_eq_true rfl) ?_
    refine WL.v (Val.move rfl rfl) ?_ -- d56
    refine WL.yes rfl rfl rfl (decide_eq_true rfl) ?_
    refine WL.v (Val.move rfl rfl) ?_ -- d57
    refine WL.yes rfl rfl rfl (decide_eq_true rfl) ?_
    refine WL.v (Val.eqlI rfl rfl rfl) ?_ -- d58
    refine WL.v (Val.pickT rfl rfl (decide_eq_true rfl) rfl) ?_ -- d59
    refine WL.v (Val.move rfl rfl) ?_ -- d60
    refine WL.yes rfl rfl rfl (decide_eq_true rfl) ?_
    refine WL.v (Val.move rfl rfl) ?_ -- d61
    refine WL.yes rfl rfl rfl (decide_eq_true rfl) ?_
    refine WL.v (Val.move rfl rfl) ?_ -- d62
    refine WL.yes rfl rfl rfl (decide_eq_true rfl) ?_
    refine WL.v (Val.eqlI rfl rfl rfl) ?_ -- d63
    refine WL.v (Val.pickT rfl rfl (decide_eq_true rfl) rfl) ?_ -- d64
    refine WL.v (Val.move rfl rfl) ?_ -- d65
    refine WL.yes rfl rfl rfl (decide_eq_true rfl) ?_
    refine WL.v (Val.move rfl rfl) ?_ -- d66
    refine WL.yes rfl rfl rfl (decide_eq_true rfl) ?_
    refine WL.v (Val.move rfl rfl) ?_ -- d67
    refine WL.yes rfl rfl rfl (decide_eq_true rfl) ?_
    refine WL.call bodied30 rfl rfl (name30 _ _ _ _ _ (hxv5.keep hb6) (hyv.keep hb6) (by omega)) ?_
    rintro _ w7 ⟨rfl, hb7⟩
    refine WL.v (Val.pickT rfl rfl (decide_eq_true rfl) rfl) ?_ -- d69
    refine WL.v (Val.assign rfl rfl) ?_ -- d4
    refine WL.nil ?_
    refine Ends.next ?_
    refine CW.ret ?_
    have s1 := hb1.size
    have t2 := hb2.mono s1
    have s2 := Nat.le_trans s1 hb2.size
    have t3 := hb3.mono s2
    have s3 := Nat.le_trans s2 hb3.size
    have t4 := hb4.mono s3
    have s4 := Nat.le_trans s3 hb4.size
    have t5 := hb5.mono s4
    have s5 := Nat.le_trans s4 hb5.size
    have t6 := hb6.mono s5
    have s6 := Nat.le_trans s5 hb6.size
    have t7 := hb7.mono s6
    exact Ends.ret1 rfl rfl ⟨congrArg Value.bool (by simp), ((((((hb1.trans t2).trans t3).trans t4).trans t5).trans t6).trans t7)⟩
end Go.Proofs.Ytjdgckamjgldmaa
