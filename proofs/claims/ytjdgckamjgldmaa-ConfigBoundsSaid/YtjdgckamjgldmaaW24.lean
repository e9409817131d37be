/- Walks: NameBytes. -/
import Derived.Test.YtjdgckamjgldmaaW18
import Derived.Test.YtjdgckamjgldmaaSpecR
namespace Go.Proofs.Ytjdgckamjgldmaa
open Go.RowKit Go.Eng

theorem esc_range (c : UInt8) : ∀ d ∈ esc c, 33 ≤ d.toNat ∧ d.toNat ≤ 126 := by
  have hc := c.toNat_lt
  have h92 : (92 : UInt8).toNat = 92 := rfl
  intro d hd
  by_cases h : (c.toNat : Int) = 46 ∨ (c.toNat : Int) = 92
  · rw [esc_dot h] at hd
    simp only [List.mem_cons, List.not_mem_nil, or_false] at hd
    rcases hd with rfl | rfl <;> omega
  · by_cases h' : (c.toNat : Int) < 33 ∨ 126 < (c.toNat : Int)
    · rw [esc_code h h'] at hd
      have d1 := dgn1 c
      have d2 := dgn2 c
      have d3 := dgn3 c
      simp only [List.mem_cons, List.not_mem_nil, or_false] at hd
      rcases hd with rfl | rfl | rfl | rfl <;> omega
    · rw [esc_plain h h'] at hd
      simp only [List.mem_singleton] at hd
      subst hd
      omega
theorem escL_range (l : List UInt8) : ∀ d ∈ escL l, 33 ≤ d.toNat ∧ d.toNat ≤ 126 := by
  intro d hd
  obtain ⟨c, _, hc⟩ := List.mem_flatMap.1 hd
  exact esc_range c d hc
theorem text_two (l m : List UInt8) : textN [mkS l, mkS m] = (escL l ++ 46 :: escL m) ++ [46] := by
  simp [textN, textT]
theorem text_range (l m : List UInt8) : ∀ d ∈ textN [mkS l, mkS m], 33 ≤ d.toNat ∧ d.toNat ≤ 126 := by
  intro d hd
  have h46 : (46 : UInt8).toNat = 46 := rfl
  rw [text_two] at hd
  simp only [List.mem_append, List.mem_cons, List.not_mem_nil, or_false] at hd
  rcases hd with (hd | rfl | hd) | rfl
  · exact escL_range l d hd
  · omega
  · exact escL_range m d hd
  · omega
theorem escL_len (l : List UInt8) : l.length ≤ (escL l).length := by
  induction l with
  | nil => simp
  | cons c l ih => simp only [escL, List.flatMap_cons, List.length_append, List.length_cons] at *; have := esc_le c; omega
theorem parse_cut {l m : List UInt8} (hl : l ≠ []) (hm : m ≠ []) (hr : rightN [mkS l, mkS m] = true) : parseN (escL l ++ 46 :: escL m) = ([mkS l, mkS m], 0) := by
  have hne : escL l ++ 46 :: escL m ≠ [46] := by
    intro h
    have h1 := congrArg List.length h
    have h2 := escL_len l
    have h3 : l.length ≠ 0 := fun h => hl (List.eq_nil_of_length_eq_zero h)
    simp at h1
    omega
  have e2 := goP_escL [mkS l] [] [] m
  rw [List.append_nil] at e2
  rw [parseN, read_go hne, goP_escL, List.nil_append, goP_dot hl, List.nil_append, e2, List.nil_append, goP_nil]
  have : finP ⟨[mkS l], m, [], false⟩ = some [mkS l, mkS m] := by simp [finP, hm]
  rw [this]
  simp [checkN_right hr]
theorem at_mkS {l : List UInt8} {i : Nat} (h : i < l.length) : (mkS l).data.toList[(i : Int).toNat]? = some l[i] := by
  have : (mkS l).data.toList = l := bytes_mkS l
  rw [this, Int.toNat_natCast, List.getElem?_eq_getElem h]
def abL (a b : UInt8) : Nat → List UInt8
  | 0 => []
  | i + 1 => abL a b i ++ [a, b]
theorem abL_len (a b : UInt8) (i : Nat) : (abL a b i).length = 2 * i := by
  induction i with
  | zero => rfl
  | succ i ih => simp [abL, ih]; omega
theorem mkS_append (a b : List UInt8) : mkS a ++ mkS b = mkS (a ++ b) := by
  apply bytes_inj
  simp [bytes, mkS]
section
variable {N : Nat} {ds : List Deferred} {e : Env} {w : World} {Q : Exit → Act → World → Prop} {ops : Array Oper} {rest : List Oper} {o : Oper}
theorem Val.addS {P : Program} {S : World → Prop} {x y : Operand} {tx ty : TypeId} {a b : ByteArray} (ho : o.op = .binOp .add tx x y ty) (hx : Opd e x = some (.string a)) (hy : Opd e y = some (.string b)) (c : ByteArray) (hc : a ++ b = c) (h : a.size + b.size ≤ 1000000000) :
    Val P e o S (.string c) := Val.strOp ho hx hy (fun w => by
      have hm : IntKind.i64.max = 9223372036854775807 := by decide
      have : ¬ ((a.size + b.size : Nat) : Int) > IntKind.i64.max := by rw [hm]; omega
      simp only [Op.stringOp, this, if_false, hc, Sem.run_pure]) (by simp) (by simp)
theorem WL.buildN {l : List Operand} {d : Tmp} (m : List ByteArray) (ho : o.op = .buildSlice 23 l.length (enumP 0 l).toArray)
    (hx : opds e l = some (m.map sv)) (hn : l.length ≤ 10000) (hn0 : 0 < l.length)
    (K : ∀ u w', Nm w' u m → Below w.heap.size w w' → WL Try.prog N ds ops Q rest ((d, u) :: e) w')
    (hg : o.guard = none := by rfl) (hd : o.dst = some d := by rfl) (hdN : d < N := by decide) : WL Try.prog N ds ops Q (o :: rest) e w :=
  WL.build ty23 ho hx (by intro v hv; simp at hv; obtain ⟨b, _, rfl⟩ := hv; rfl) hn hn0 (fun hs => K _ _ hs (below_alloc w _)) hg hd hdN
end
-- signet/signetlaw3.NameBytes
theorem bytes10 (a b n : UInt8) (w : World) : Runs Try.prog 10 #[bv a, bv b, bv n] w fun r w' => r = .bool true ∧ Below w.heap.size w w' := by
  have hnb := n.toNat_lt
  refine enter (N := 79) (args := [_, _, _]) Try.func10 rfl rfl (Nat.le_of_ble_eq_true rfl) ?_
  refine CW.seq ?_
  refine CW.region ?_
  refine WL.v (Val.assign rfl rfl) ?_ -- d6
  refine WL.nil ?_
  refine Ends.next ?_
  refine CW.seq ?_
  refine CW.seq ?_
  refine CW.region ?_
  refine WL.call bodied25 rfl rfl (known25 w) ?_
  rintro _ w1 ⟨rfl, hb1⟩
  refine WL.v (Val.not rfl rfl) ?_ -- d17
  refine WL.nil ?_
  refine Ends.next ?_
  refine CW.condF rfl (rfl) ?_
  refine CW.skip ?_
  refine Ends.next ?_
  refine CW.seq ?_
  refine CW.region ?_
  refine WL.v (Val.assign rfl rfl) ?_ -- d7
  refine WL.nil ?_
  refine Ends.next ?_
  refine CW.seq ?_
  refine CW.seq ?_
  refine CW.region ?_
  refine WL.v (Val.assign rfl rfl) ?_ -- d8
  refine WL.nil ?_
  refine Ends.next ?_
  refine CW.block ?_
  refine CW.loop (α := Nat) (fun i => [(0, bv a), (1, bv b), (2, bv n), (7, sv (mkS (abL a b i))), (8, .int .i64 i)]) (fun i w2 => i ≤ n.toNat % 20 + 1 ∧ Below w.heap.size w w2) (fun i => 100 - i) 0 ⟨rfl, rfl, rfl, rfl, rfl, trivial⟩ ⟨Nat.zero_le _, hb1⟩ ?_
  rintro i w2 ⟨hi, hbw⟩
  have hsz := hbw.size
  refine CW.seq ?_
  refine CW.seq ?_
  refine CW.region ?_
  refine WL.v (Val.move rfl rfl) ?_ -- d18
  refine WL.v (Val.move rfl rfl) ?_ -- d19
  refine WL.v (Val.rem rfl rfl rfl (by decide) ((n.toNat % 20 : Nat) : Int) (by rw [Int.tmod_eq_emod_of_nonneg (by omega)]; omega)) ?_
  refine WL.v (Val.convI rfl Try.underlying5 Try.underlying3 rfl _ (IntWalk.i64_in _ (by omega))) ?_ -- d21
  refine WL.v (Val.leq rfl rfl rfl) ?_ -- d22
  refine WL.nil ?_
  refine Ends.next ?_
  refine CW.condD rfl (fun hc1 => ?_) (fun hc1 => ?_)
  · -- yes
    refine CW.skip ?_
    refine Ends.next ?_
    refine CW.seq ?_
    refine CW.block ?_
    refine CW.region ?_
    refine WL.v (Val.move rfl rfl) ?_ -- d25
    refine WL.v (Val.move rfl rfl) ?_ -- d26
    refine WL.v (Val.move rfl rfl) ?_ -- d27
    refine WL.buildB (l := [_, _]) [a, b] rfl rfl (by decide) (by decide) (fun u w3 hu hb3 _ => ?_)
    refine WL.v (Val.toStr (l := [a, b]) Try.underlying25 Try.underlying9 Try.underlying5 rfl rfl (at_ hu)) ?_
    refine WL.v (Val.addS rfl rfl rfl (mkS (abL a b (i + 1))) (mkS_append _ [a, b]) (by rw [size_mkS, abL_len]; show _ + 2 ≤ _; omega)) ?_
    refine WL.v (Val.assign rfl rfl) ?_ -- d7
    refine WL.nil ?_
    refine Ends.blkn ?_
    refine Ends.next ?_
    refine CW.region ?_
    refine WL.v (Val.move rfl rfl) ?_ -- d23
    refine WL.v (Val.add rfl rfl rfl _ (IntWalk.i64_in _ (by omega))) ?_ -- d24
    refine WL.v (Val.assign rfl rfl) ?_ -- d8
    refine WL.nil ?_
    exact Ends.round (i + 1) (by omega) ⟨rfl, rfl, rfl, rfl, rfl, trivial⟩ ⟨by omega, hbw.trans (hb3.mono hsz)⟩
  · -- no
    obtain ⟨K, hK⟩ : ∃ K, K = i := ⟨_, rfl⟩
    rw [← hK]
    have hK1 : 1 ≤ K := by omega
    have hK2 : K ≤ 20 := by omega
    have hKl := abL_len a b K
    have hrt : rightN [mkS (abL a b K), mkS [101]] = true := by
      simp only [rightN, sumS, List.all_cons, List.all_nil, size_mkS, hKl, Bool.and_eq_true, decide_eq_true_eq, List.length_cons, List.length_nil, Bool.and_true]
      omega
    have hne1 : abL a b K ≠ [] := fun h => by rw [h] at hKl; simp at hKl; omega
    have htl := textN_le [mkS (abL a b K), mkS [101]]
    simp only [sumS, size_mkS, hKl, List.length_cons, List.length_nil] at htl
    refine CW.exit ?_
    refine Ends.seqx ?_
    refine Ends.seqx ?_
    refine Ends.blke ?_
    refine Ends.next ?_
    refine CW.seq ?_
    refine CW.region ?_
    refine WL.v (Val.move rfl rfl) ?_ -- d31
    refine WL.buildN (l := [_, _]) [mkS (abL a b K), mkS [101]] rfl rfl (by decide) (by decide) (fun u w3 hu hb3 => ?_)
    refine WL.v (Val.assign rfl rfl) ?_ -- d9
    refine WL.nil ?_
    refine Ends.next ?_
    refine CW.seq ?_
    refine CW.region ?_
    refine WL.v (Val.move rfl rfl) ?_ -- d33
    refine WL.call bodied32 rfl rfl (text32 _ _ _ hu (by simp) (by simp only [sumS, size_mkS, hKl, List.length_cons, List.length_nil]; omega)) ?_
    rintro _ w4 ⟨rfl, hb4⟩
    have hu4 := hu.keep hb4
    refine WL.v (Val.assign rfl rfl) ?_ -- d10
    refine WL.nil ?_
    refine Ends.next ?_
    refine CW.seq ?_
    refine CW.seq ?_
    refine CW.region ?_
    refine WL.v (Val.assign rfl rfl) ?_ -- d11
    refine WL.nil ?_
    refine Ends.next ?_
    refine CW.block ?_
    refine CW.loop (α := Nat) (fun i => [(9, u), (10, sv (mkS (textN [mkS (abL a b K), mkS [101]]))), (11, .int .i64 i)]) (fun i w5 => w5 = w4 ∧ i ≤ (textN [mkS (abL a b K), mkS [101]]).length) (fun i => (textN [mkS (abL a b K), mkS [101]]).length - i) 0 ⟨rfl, rfl, rfl, trivial⟩ ⟨rfl, Nat.zero_le _⟩ ?_
    rintro i _ ⟨rfl, hi4⟩
    have hsT : (mkS (textN [mkS (abL a b K), mkS [101]])).size = (textN [mkS (abL a b K), mkS [101]]).length := size_mkS _
    refine CW.seq ?_
    refine CW.seq ?_
    refine CW.region ?_
    refine WL.v (Val.move rfl rfl) ?_ -- d35
    refine WL.v (Val.move rfl rfl) ?_ -- d36
    refine WL.v (Val.lenStr rfl Try.underlying9 rfl) ?_ -- d37
    refine WL.v (Val.lss rfl rfl rfl) ?_ -- d38
    refine WL.nil ?_
    refine Ends.next ?_
    refine CW.condD rfl (fun hc2 => ?_) (fun hc2 => ?_)
    · -- yes
      have hlt : i < (textN [mkS (abL a b K), mkS [101]]).length := by omega
      have hrg := text_range (abL a b K) [101] _ (List.getElem_mem hlt)
      refine CW.skip ?_
      refine Ends.next ?_
      refine CW.seq ?_
      refine CW.block ?_
      refine CW.seq ?_
      refine CW.region ?_
      refine WL.v (Val.move rfl rfl) ?_ -- d41
      refine WL.v (Val.move rfl rfl) ?_ -- d42
      refine WL.v (Val.idxStr rfl Try.underlying9 rfl rfl (by omega) (b := (textN [mkS (abL a b K), mkS [101]])[i]) (at_mkS hlt)) ?_
      refine WL.v (Val.lss rfl rfl rfl) ?_ -- d44
      refine WL.v (Val.move rfl rfl) ?_ -- d45
      refine WL.or (j := 4) (seg := [_, _, _, _]) (r := decide (126 < (((textN [mkS (abL a b K), mkS [101]])[i]'hlt).toNat : Int))) rfl rfl rfl rfl (fun hb50 HK50 => ?hT1) ?_
      case hT1 =>
        refine WL.yes rfl rfl rfl hb50 ?_
        refine WL.v (Val.move rfl rfl) ?_ -- d46
        refine WL.yes rfl rfl rfl hb50 ?_
        refine WL.v (Val.move rfl rfl) ?_ -- d47
        refine WL.yes rfl rfl rfl hb50 ?_
        refine WL.v (Val.idxStr rfl Try.underlying9 rfl rfl (by omega) (b := (textN [mkS (abL a b K), mkS [101]])[i]) (at_mkS hlt)) ?_
        refine WL.yes rfl rfl rfl hb50 ?_
        refine WL.v (Val.gtr rfl rfl rfl) ?_ -- d49
        refine WL.v (Val.pickF rfl rfl hb50 rfl) ?_
        refine WL.forget rfl ?_; refine WL.forget rfl ?_; refine WL.forget rfl ?_; refine WL.forget rfl ?_
        exact HK50
      refine WL.nil ?_
      refine Ends.next ?_
      refine CW.condF rfl (by simp only [Bool.or_eq_false_iff, decide_eq_false_iff_not]; omega) ?_
      refine CW.skip ?_
      refine Ends.blkn ?_
      refine Ends.next ?_
      refine CW.region ?_
      refine WL.v (Val.move rfl rfl) ?_ -- d39
      refine WL.v (Val.add rfl rfl rfl _ (IntWalk.i64_in _ (by omega))) ?_ -- d40
      refine WL.v (Val.assign rfl rfl) ?_ -- d11
      refine WL.nil ?_
      exact Ends.round (i + 1) (by omega) ⟨rfl, rfl, rfl, trivial⟩ ⟨rfl, by omega⟩
    · -- no
      have hlen1 : 1 ≤ (textN [mkS (abL a b K), mkS [101]]).length := by rw [text_two]; simp; omega
      refine CW.exit ?_
      refine Ends.seqx ?_
      refine Ends.seqx ?_
      refine Ends.blke ?_
      refine Ends.next ?_
      refine CW.seq ?_
      refine CW.region ?_
      refine WL.v (Val.move rfl rfl) ?_ -- d52
      refine WL.call bodied26 rfl rfl (parse26 _ _ (by rw [size_mkS]; omega)) ?_
      rw [bytes_mkS, parse_text hrt]
      rintro _ w5 ⟨pv, rfl, hp5, hb5⟩
      have hu5 := hu4.keep hb5
      refine WL.v (Val.move rfl rfl) ?_ -- d51
      refine WL.v (Val.extract rfl rfl rfl) ?_ -- d54
      refine WL.v (Val.extract rfl rfl rfl) ?_ -- d55
      refine WL.v (Val.assign rfl rfl) ?_ -- d12
      refine WL.v (Val.assign rfl rfl) ?_ -- d13
      refine WL.nil ?_
      refine Ends.next ?_
      refine CW.seq ?_
      refine CW.region ?_
      refine WL.v (Val.move rfl rfl) ?_ -- d57
      refine WL.v (Val.move rfl rfl) ?_ -- d58
      refine WL.v (Val.lenStr rfl Try.underlying9 rfl) ?_ -- d59
      refine WL.v (Val.subt rfl rfl rfl (((textN [mkS (abL a b K), mkS [101]]).length - 1 : Nat) : Int) (i64_eq (by omega) (by omega))) ?_
      refine WL.v (Val.subStr 0 ((textN [mkS (abL a b K), mkS [101]]).length - 1) rfl Try.underlying9 (s := mkS (textN [mkS (abL a b K), mkS [101]])) rfl rfl rfl (Nat.zero_le _) (by omega)) ?_
      have hcut : bytes ((mkS (textN [mkS (abL a b K), mkS [101]])).extract 0 ((textN [mkS (abL a b K), mkS [101]]).length - 1)) = escL (abL a b K) ++ 46 :: escL [101] := by
        rw [bytes_extract, bytes_mkS, text_two, List.drop_zero, List.length_append, List.length_singleton, Nat.add_sub_cancel, List.take_left]
      refine WL.call bodied26 rfl rfl (parse26 _ _ (by simp; omega)) ?_
      rw [hcut, parse_cut hne1 (by decide) hrt]
      rintro _ w6 ⟨qv, rfl, hq6, hb6⟩
      have hu6 := hu5.keep hb6
      have hp6 := hp5.keep hb6
      refine WL.v (Val.move rfl rfl) ?_ -- d56
      refine WL.v (Val.extract rfl rfl rfl) ?_ -- d63
      refine WL.v (Val.extract rfl rfl rfl) ?_ -- d64
      refine WL.v (Val.assign rfl rfl) ?_ -- d14
      refine WL.v (Val.assign rfl rfl) ?_ -- d15
      refine WL.nil ?_
      refine Ends.next ?_
      refine CW.seq ?_
      refine CW.region ?_
      refine WL.v (Val.move rfl rfl) ?_ -- d65
      refine WL.v (Val.move rfl rfl) ?_ -- d66
      refine WL.v (Val.add rfl rfl rfl _ (show IntKind.i64.wrap ((0 : Int) + 0) = 0 from rfl)) ?_
      refine WL.v (Val.eqlI rfl rfl rfl) ?_ -- d68
      refine WL.v (Val.move rfl rfl) ?_ -- d69
      refine WL.yes rfl rfl rfl (rfl) ?_
      refine WL.v (Val.move rfl rfl) ?_ -- d70
      refine WL.yes rfl rfl rfl (rfl) ?_
      refine WL.v (Val.move rfl rfl) ?_ -- d71
      refine WL.yes rfl rfl rfl (rfl) ?_
      refine WL.call bodied30 rfl rfl (name30 _ _ _ _ _ hu6 hp6 (by show 2 ≤ _; decide)) ?_
      rw [decide_eq_true rfl]
      rintro _ w7 ⟨rfl, hb7⟩
      refine WL.v (Val.pickT rfl rfl (rfl) rfl) ?_ -- d73
      refine WL.v (Val.move rfl rfl) ?_ -- d74
      refine WL.yes rfl rfl rfl (rfl) ?_
      refine WL.v (Val.move rfl rfl) ?_ -- d75
      refine WL.yes rfl rfl rfl (rfl) ?_
      refine WL.v (Val.move rfl rfl) ?_ -- d76
      refine WL.yes rfl rfl rfl (rfl) ?_
      refine WL.call bodied30 rfl rfl (name30 _ _ _ _ _ (hu6.keep hb7) (hq6.keep hb7) (by show 2 ≤ _; decide)) ?_
      rw [decide_eq_true rfl]
      rintro _ w8 ⟨rfl, hb8⟩
      refine WL.v (Val.pickT rfl rfl (rfl) rfl) ?_ -- d78
      refine WL.v (Val.assign rfl rfl) ?_ -- d6
      refine WL.nil ?_
      refine Ends.next ?_
      refine CW.ret ?_
      have t3 := hb3.mono hsz
      have s3 := Nat.le_trans hsz hb3.size
      have t4 := hb4.mono s3
      have s4 := Nat.le_trans s3 hb4.size
      have t5 := hb5.mono s4
      have s5 := Nat.le_trans s4 hb5.size
      have t6 := hb6.mono s5
      have s6 := Nat.le_trans s5 hb6.size
      have t7 := hb7.mono s6
      have s7 := Nat.le_trans s6 hb7.size
      have t8 := hb8.mono s7
      exact Ends.ret1 rfl rfl ⟨rfl, ((((((hbw.trans t3).trans t4).trans t5).trans t6).trans t7).trans t8)⟩
end Go.Proofs.Ytjdgckamjgldmaa
