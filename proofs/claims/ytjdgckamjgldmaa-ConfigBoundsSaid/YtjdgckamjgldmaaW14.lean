/- Walks: the reader's step. -/
import Derived.Test.YtjdgckamjgldmaaW13
namespace Go.Proofs.Ytjdgckamjgldmaa
open Go.RowKit Go.Eng

-- (*signet/name.reader).take
theorem take54a (g r : Nat) (t : ByteArray) (s : PS) (vn vl vc : Value) (w : World) (hr : RdV w g s vn vl vc) (_hs : Sml s 100000000) (_ht : t.size ≤ 100000000) (h0 : 0 < s.code.length) (hnum : numS s r = none) : Steps 54 #[.pointer (some ⟨g, 0, none⟩), .int .i32 r, sv t] g none w := by
  have hlt := hr.lt
  obtain ⟨A, c, hv, -⟩ := id hr.oc.sl
  rw [List.length_map] at hv
  subst hv
  show Panics _ _ _ _ _ _
  refine enter (N := 73) (args := [_, _, _]) Try.func54 rfl rfl (Nat.le_of_ble_eq_true rfl) ?_
  refine CW.block ?_
  refine CW.seq ?_
  refine CW.region ?_
  refine WL.v (Val.move rfl rfl) ?_ -- d16
  refine WL.v (Val.nilCheck rfl rfl) ?_ -- d17
  refine WL.v (Val.fieldAddr ⟨g, 2, none⟩ rfl rfl (fun _ => by kernel_rfl)) ?_
  refine WL.v (Val.load rfl pl25 rfl (at_ hr.f2.1)) ?_
  refine WL.v (Val.lenSl rfl Try.underlying25 rfl) ?_ -- d20
  refine WL.v (Val.gtr rfl rfl rfl) ?_ -- d21
  refine WL.v (Val.assign rfl rfl) ?_ -- d15
  refine WL.nil ?_
  refine Ends.next ?_
  refine CW.condT rfl (decide_eq_true (by omega)) ?_
  refine CW.region ?_
  refine WL.v (Val.move rfl rfl) ?_ -- d22
  refine WL.v (Val.move rfl rfl) ?_ -- d23
  have hn := num64 g r s _ _ _ w hr _hs
  rw [hnum] at hn
  refine WL.callP bodied64 rfl rfl hn (fun w2 hb2 => ?_)
  refine Ends.blkp ?_
  exact Ends.panicEnd ⟨rfl, hb2⟩
-- hook not used: d28
-- hook not used: d29
-- hook not used: r33
-- hook not used: d32
-- hook not used: d37
-- hook not used: d38
-- hook not used: d40
-- hook not used: d41
-- hook not used: d42
-- hook not used: d44
-- hook not used: n4.11
-- hook not used: d48
-- hook not used: d49
-- hook not used: d54
-- hook not used: d55
-- hook not used: d57
-- hook not used: d59
-- hook not used: n6.10
-- hook not used: d61
-- hook not used: n6.13
-- hook not used: d67
-- hook not used: n8.3
-- hook not used: d9
-- hook not used: d10
-- hook not used: d12
-- hook not used: d14
-- hook not used: n0.9
-- (*signet/name.reader).take
theorem take54b (g r : Nat) (t : ByteArray) (s : PS) (vn vl vc : Value) (w : World) (hr : RdV w g s vn vl vc) (_hs : Sml s 100000000) (_ht : t.size ≤ 100000000) (s2 : PS) (h0 : 0 < s.code.length) (hnum : numS s r = some s2) : Steps 54 #[.pointer (some ⟨g, 0, none⟩), .int .i32 r, sv t] g (some s2) w := by
  have hlt := hr.lt
  obtain ⟨A, c, hv, -⟩ := id hr.oc.sl
  rw [List.length_map] at hv
  subst hv
  show Runs _ _ _ _ _
  refine enter (N := 73) (args := [_, _, _]) Try.func54 rfl rfl (Nat.le_of_ble_eq_true rfl) ?_
  refine CW.block ?_
  refine CW.seq ?_
  refine CW.region ?_
  refine WL.v (Val.move rfl rfl) ?_ -- d16
  refine WL.v (Val.nilCheck rfl rfl) ?_ -- d17
  refine WL.v (Val.fieldAddr ⟨g, 2, none⟩ rfl rfl (fun _ => by kernel_rfl)) ?_
  refine WL.v (Val.load rfl pl25 rfl (at_ hr.f2.1)) ?_
  refine WL.v (Val.lenSl rfl Try.underlying25 rfl) ?_ -- d20
  refine WL.v (Val.gtr rfl rfl rfl) ?_ -- d21
  refine WL.v (Val.assign rfl rfl) ?_ -- d15
  refine WL.nil ?_
  refine Ends.next ?_
  refine CW.condT rfl (decide_eq_true (by omega)) ?_
  refine CW.region ?_
  refine WL.v (Val.move rfl rfl) ?_ -- d22
  refine WL.v (Val.move rfl rfl) ?_ -- d23
  have hn := num64 g r s _ _ _ w hr _hs
  rw [hnum] at hn
  refine WL.call bodied64 rfl rfl hn ?_
  rintro _ w2 ⟨rfl, hr2, hbc2⟩
  refine WL.nil ?_
  refine Ends.blkn ?_
  exact Ends.end0 rfl ⟨rfl, hr2, hbc2⟩
-- hook not used: d28
-- hook not used: d29
-- hook not used: r33
-- hook not used: d32
-- hook not used: d37
-- hook not used: d38
-- hook not used: d40
-- hook not used: d41
-- hook not used: d42
-- hook not used: d44
-- hook not used: n4.11
-- hook not used: d48
-- hook not used: d49
-- hook not used: d54
-- hook not used: d55
-- hook not used: d57
-- hook not used: d59
-- hook not used: n6.10
-- hook not used: d61
-- hook not used: n6.13
-- hook not used: d67
-- hook not used: n8.3
-- hook not used: d9
-- hook not used: d10
-- hook not used: d12
-- hook not used: d14
-- hook not used: n0.9
-- (*signet/name.reader).take
theorem take54c (g r : Nat) (t : ByteArray) (s : PS) (vn vl vc : Value) (w : World) (hr : RdV w g s vn vl vc) (_hs : Sml s 100000000) (_ht : t.size ≤ 100000000) (_hcode : s.code = []) (hcl : s.code.length = 0) (hsg : s.sign = true) (hd : digN r) : Steps 54 #[.pointer (some ⟨g, 0, none⟩), .int .i32 r, sv t] g (some { s with code := s.code ++ [UInt8.ofNat r] }) w := by
  have hlt := hr.lt
  obtain ⟨A, c, hv, -⟩ := id hr.oc.sl
  rw [List.length_map] at hv
  subst hv
  show Runs _ _ _ _ _
  refine enter (N := 73) (args := [_, _, _]) Try.func54 rfl rfl (Nat.le_of_ble_eq_true rfl) ?_
  refine CW.block ?_
  refine CW.seq ?_
  refine CW.region ?_
  refine WL.v (Val.move rfl rfl) ?_ -- d16
  refine WL.v (Val.nilCheck rfl rfl) ?_ -- d17
  refine WL.v (Val.fieldAddr ⟨g, 2, none⟩ rfl rfl (fun _ => by kernel_rfl)) ?_
  refine WL.v (Val.load rfl pl25 rfl (at_ hr.f2.1)) ?_
  refine WL.v (Val.lenSl rfl Try.underlying25 rfl) ?_ -- d20
  refine WL.v (Val.gtr rfl rfl rfl) ?_ -- d21
  refine WL.v (Val.assign rfl rfl) ?_ -- d15
  refine WL.nil ?_
  refine Ends.next ?_
  refine CW.condF rfl (decide_eq_false (by omega)) ?_
  refine CW.seq ?_
  refine CW.region ?_
  refine WL.v (Val.move rfl rfl) ?_ -- d26
  refine WL.v (Val.nilCheck rfl rfl) ?_ -- d27
  refine WL.v (Val.fieldAddr ⟨g, 3, none⟩ rfl rfl (fun _ => by kernel_rfl)) ?_
  refine WL.v (Val.load rfl pl4 rfl (at_ hr.f3.1)) ?_
  refine WL.v (Val.move rfl rfl) ?_ -- d30
  refine WL.and (j := 4) (seg := [_, _]) (r := decide (48 ≤ (r : Int) ∧ (r : Int) ≤ 57)) rfl rfl rfl rfl (fun hb33 HK33 => ?hT1) ?_
  case hT1 =>
    refine WL.yes rfl rfl rfl hb33 ?_
    refine WL.v (Val.move rfl rfl) ?_ -- d31
    refine WL.yes rfl rfl rfl hb33 ?_
    refine WL.call bodied65 rfl rfl (digit65 r w) ?_
    rintro _ _ ⟨rfl, rfl⟩
    refine WL.v (Val.pickT rfl rfl hb33 rfl) ?_
    refine WL.forget rfl ?_; refine WL.forget rfl ?_
    exact HK33
  refine WL.v (Val.assign rfl rfl) ?_ -- d25
  refine WL.nil ?_
  refine Ends.next ?_
  refine CW.condT rfl (by rw [hsg]; simp only [digN] at hd; simp; omega) ?_
  refine CW.region ?_
  refine WL.v (Val.move rfl rfl) ?_ -- d34
  refine WL.v (Val.move rfl rfl) ?_ -- d35
  refine WL.v (Val.nilCheck rfl rfl) ?_ -- d36
  refine WL.v (Val.fieldAddr ⟨g, 2, none⟩ rfl rfl (fun _ => by kernel_rfl)) ?_
  refine WL.v (Val.load rfl pl25 rfl (at_ hr.f2.1)) ?_
  refine WL.v (Val.move rfl rfl) ?_ -- d39
  refine WL.v (Val.convI rfl Try.underlying21 Try.underlying5 rfl _ (wrapU8 r)) ?_
  refine WL.build1 ty25 rfl rfl rfl ?_
  refine WL.apB (UInt8.ofNat r) hr.oc rfl rfl rfl (by have := _hs.2.2; omega) (by omega) (fun vc2 w2 hown2 hg2 hat2 => ?_)
  refine WL.v (Val.nilCheck rfl rfl) ?_ -- d43
  refine WL.v (Val.fieldAddr ⟨g, 2, none⟩ rfl rfl (fun _ => by kernel_rfl)) ?_
  have hq2 := own_cells hown2
  have hf2 := own_fld hr.f2 hr.oc hg2
  have hr2 := hr.putC hown2 hg2 hat2 (by simp)
  have hbc2 := (Bc.grow hr.oc hlt hg2).trans (Bc.set g 2 w2 vc2)
  refine WL.store1 rfl sz25 rfl rfl hq2.1 hq2.2 hf2.1 hf2.2 ?_
  refine WL.nil ?_
  refine Ends.blkn ?_
  exact Ends.end0 rfl ⟨rfl, ⟨_, _, _, hr2⟩, hbc2⟩
-- hook not used: d48
-- hook not used: d49
-- hook not used: d54
-- hook not used: d55
-- hook not used: d57
-- hook not used: d59
-- hook not used: n6.10
-- hook not used: d61
-- hook not used: n6.13
-- hook not used: d67
-- hook not used: n8.3
-- hook not used: d9
-- hook not used: d10
-- hook not used: d12
-- hook not used: d14
-- hook not used: n0.9
-- (*signet/name.reader).take
theorem take54d (g r : Nat) (t : ByteArray) (s : PS) (vn vl vc : Value) (w : World) (hr : RdV w g s vn vl vc) (_hs : Sml s 100000000) (_ht : t.size ≤ 100000000) (_hcode : s.code = []) (hcl : s.code.length = 0) (hsg : s.sign = true) (hd : ¬ digN r) : Steps 54 #[.pointer (some ⟨g, 0, none⟩), .int .i32 r, sv t] g (some { s with l := s.l ++ bytes t, sign := false }) w := by
  have hlt := hr.lt
  obtain ⟨A, c, hv, -⟩ := id hr.oc.sl
  rw [List.length_map] at hv
  subst hv
  show Runs _ _ _ _ _
  refine enter (N := 73) (args := [_, _, _]) Try.func54 rfl rfl (Nat.le_of_ble_eq_true rfl) ?_
  refine CW.block ?_
  refine CW.seq ?_
  refine CW.region ?_
  refine WL.v (Val.move rfl rfl) ?_ -- d16
  refine WL.v (Val.nilCheck rfl rfl) ?_ -- d17
  refine WL.v (Val.fieldAddr ⟨g, 2, none⟩ rfl rfl (fun _ => by kernel_rfl)) ?_
  refine WL.v (Val.load rfl pl25 rfl (at_ hr.f2.1)) ?_
  refine WL.v (Val.lenSl rfl Try.underlying25 rfl) ?_ -- d20
  refine WL.v (Val.gtr rfl rfl rfl) ?_ -- d21
  refine WL.v (Val.assign rfl rfl) ?_ -- d15
  refine WL.nil ?_
  refine Ends.next ?_
  refine CW.condF rfl (decide_eq_false (by omega)) ?_
  refine CW.seq ?_
  refine CW.region ?_
  refine WL.v (Val.move rfl rfl) ?_ -- d26
  refine WL.v (Val.nilCheck rfl rfl) ?_ -- d27
  refine WL.v (Val.fieldAddr ⟨g, 3, none⟩ rfl rfl (fun _ => by kernel_rfl)) ?_
  refine WL.v (Val.load rfl pl4 rfl (at_ hr.f3.1)) ?_
  refine WL.v (Val.move rfl rfl) ?_ -- d30
  refine WL.and (j := 4) (seg := [_, _]) (r := decide (48 ≤ (r : Int) ∧ (r : Int) ≤ 57)) rfl rfl rfl rfl (fun hb33 HK33 => ?hT1) ?_
  case hT1 =>
    refine WL.yes rfl rfl rfl hb33 ?_
    refine WL.v (Val.move rfl rfl) ?_ -- d31
    refine WL.yes rfl rfl rfl hb33 ?_
    refine WL.call bodied65 rfl rfl (digit65 r w) ?_
    rintro _ _ ⟨rfl, rfl⟩
    refine WL.v (Val.pickT rfl rfl hb33 rfl) ?_
    refine WL.forget rfl ?_; refine WL.forget rfl ?_
    exact HK33
  refine WL.v (Val.assign rfl rfl) ?_ -- d25
  refine WL.nil ?_
  refine Ends.next ?_
  refine CW.condF rfl (by rw [hsg]; simp only [digN] at hd; simp; omega) ?_
  refine CW.seq ?_
  refine CW.region ?_
  refine WL.v (Val.move rfl rfl) ?_ -- d46
  refine WL.v (Val.nilCheck rfl rfl) ?_ -- d47
  refine WL.v (Val.fieldAddr ⟨g, 3, none⟩ rfl rfl (fun _ => by kernel_rfl)) ?_
  refine WL.v (Val.load rfl pl4 rfl (at_ hr.f3.1)) ?_
  refine WL.v (Val.assign rfl rfl) ?_ -- d45
  refine WL.nil ?_
  refine Ends.next ?_
  refine CW.condT rfl (hsg) ?_
  refine CW.region ?_
  refine WL.v (Val.move rfl rfl) ?_ -- d50
  refine WL.v (Val.move rfl rfl) ?_ -- d51
  refine WL.v (Val.move rfl rfl) ?_ -- d52
  refine WL.v (Val.nilCheck rfl rfl) ?_ -- d53
  refine WL.v (Val.fieldAddr ⟨g, 1, none⟩ rfl rfl (fun _ => by kernel_rfl)) ?_
  refine WL.v (Val.load rfl pl25 rfl (at_ hr.f1.1)) ?_
  refine WL.v (Val.move rfl rfl) ?_ -- d56
  refine WL.apS hr.ol rfl rfl rfl (by have := _hs.1; omega) (by omega) (fun vl2 w2 hown2 hg2 => ?_)
  have hq2 := own_cells hown2
  have hf2 := own_fld hr.f1 hr.ol hg2
  have hr2 := hr.putL hown2 hg2 (by rw [hr.nc _hcode]; exact Ap.nilR _)
  have hbc2 := (Bc.grow hr.ol hlt hg2).trans (Bc.set g 1 w2 vl2)
  refine WL.v (Val.nilCheck rfl rfl) ?_ -- d58
  refine WL.v (Val.fieldAddr ⟨g, 1, none⟩ rfl rfl (fun _ => by kernel_rfl)) ?_
  refine WL.store1 rfl sz25 rfl rfl hq2.1 hq2.2 hf2.1 hf2.2 ?_
  refine WL.v (Val.nilCheck rfl rfl) ?_ -- d60
  refine WL.v (Val.fieldAddr ⟨g, 3, none⟩ rfl rfl (fun _ => by kernel_rfl)) ?_
  have hr3 := hr2.putS false
  refine WL.store1 rfl sz4 rfl rfl rfl rfl hr2.f3.1 hr2.f3.2 ?_
  refine WL.nil ?_
  refine Ends.blkn ?_
  exact Ends.end0 rfl ⟨rfl, ⟨_, _, _, hr3⟩, hbc2.trans (Bc.set g 3 _ _)⟩
-- hook not used: d37
-- hook not used: d38
-- hook not used: d40
-- hook not used: d41
-- hook not used: d42
-- hook not used: d44
-- hook not used: n4.11
-- hook not used: d67
-- hook not used: n8.3
-- hook not used: d9
-- hook not used: d10
-- hook not used: d12
-- hook not used: d14
-- hook not used: n0.9
-- (*signet/name.reader).take
theorem take54e (g r : Nat) (t : ByteArray) (s : PS) (vn vl vc : Value) (w : World) (hr : RdV w g s vn vl vc) (_hs : Sml s 100000000) (_ht : t.size ≤ 100000000) (_hcode : s.code = []) (hcl : s.code.length = 0) (hsg : s.sign = false) (h92 : r = 92) : Steps 54 #[.pointer (some ⟨g, 0, none⟩), .int .i32 r, sv t] g (some { s with sign := true }) w := by
  have hlt := hr.lt
  obtain ⟨A, c, hv, -⟩ := id hr.oc.sl
  rw [List.length_map] at hv
  subst hv
  show Runs _ _ _ _ _
  refine enter (N := 73) (args := [_, _, _]) Try.func54 rfl rfl (Nat.le_of_ble_eq_true rfl) ?_
  refine CW.block ?_
  refine CW.seq ?_
  refine CW.region ?_
  refine WL.v (Val.move rfl rfl) ?_ -- d16
  refine WL.v (Val.nilCheck rfl rfl) ?_ -- d17
  refine WL.v (Val.fieldAddr ⟨g, 2, none⟩ rfl rfl (fun _ => by kernel_rfl)) ?_
  refine WL.v (Val.load rfl pl25 rfl (at_ hr.f2.1)) ?_
  refine WL.v (Val.lenSl rfl Try.underlying25 rfl) ?_ -- d20
  refine WL.v (Val.gtr rfl rfl rfl) ?_ -- d21
  refine WL.v (Val.assign rfl rfl) ?_ -- d15
  refine WL.nil ?_
  refine Ends.next ?_
  refine CW.condF rfl (decide_eq_false (by omega)) ?_
  refine CW.seq ?_
  refine CW.region ?_
  refine WL.v (Val.move rfl rfl) ?_ -- d26
  refine WL.v (Val.nilCheck rfl rfl) ?_ -- d27
  refine WL.v (Val.fieldAddr ⟨g, 3, none⟩ rfl rfl (fun _ => by kernel_rfl)) ?_
  refine WL.v (Val.load rfl pl4 rfl (at_ hr.f3.1)) ?_
  refine WL.v (Val.move rfl rfl) ?_ -- d30
  refine WL.and (j := 4) (seg := [_, _]) (r := decide (48 ≤ (r : Int) ∧ (r : Int) ≤ 57)) rfl rfl rfl rfl (fun hb33 HK33 => ?hT1) ?_
  case hT1 =>
    refine WL.yes rfl rfl rfl hb33 ?_
    refine WL.v (Val.move rfl rfl) ?_ -- d31
    refine WL.yes rfl rfl rfl hb33 ?_
    refine WL.call bodied65 rfl rfl (digit65 r w) ?_
    rintro _ _ ⟨rfl, rfl⟩
    refine WL.v (Val.pickT rfl rfl hb33 rfl) ?_
    refine WL.forget rfl ?_; refine WL.forget rfl ?_
    exact HK33
  refine WL.v (Val.assign rfl rfl) ?_ -- d25
  refine WL.nil ?_
  refine Ends.next ?_
  refine CW.condF rfl (by rw [hsg]; rfl) ?_
  refine CW.seq ?_
  refine CW.region ?_
  refine WL.v (Val.move rfl rfl) ?_ -- d46
  refine WL.v (Val.nilCheck rfl rfl) ?_ -- d47
  refine WL.v (Val.fieldAddr ⟨g, 3, none⟩ rfl rfl (fun _ => by kernel_rfl)) ?_
  refine WL.v (Val.load rfl pl4 rfl (at_ hr.f3.1)) ?_
  refine WL.v (Val.assign rfl rfl) ?_ -- d45
  refine WL.nil ?_
  refine Ends.next ?_
  refine CW.condF rfl (hsg) ?_
  refine CW.seq ?_
  refine CW.region ?_
  refine WL.v (Val.move rfl rfl) ?_ -- d63
  refine WL.v (Val.eqlI rfl rfl rfl) ?_ -- d64
  refine WL.v (Val.assign rfl rfl) ?_ -- d62
  refine WL.nil ?_
  refine Ends.next ?_
  refine CW.condT rfl (decide_eq_true (by omega)) ?_
  refine CW.region ?_
  refine WL.v (Val.move rfl rfl) ?_ -- d65
  refine WL.v (Val.nilCheck rfl rfl) ?_ -- d66
  refine WL.v (Val.fieldAddr ⟨g, 3, none⟩ rfl rfl (fun _ => by kernel_rfl)) ?_
  have hr3 := hr.putS true
  refine WL.store1 rfl sz4 rfl rfl rfl rfl hr.f3.1 hr.f3.2 ?_
  refine WL.nil ?_
  refine Ends.blkn ?_
  exact Ends.end0 rfl ⟨rfl, ⟨_, _, _, hr3⟩, Bc.set g 3 _ _⟩
-- hook not used: d37
-- hook not used: d38
-- hook not used: d40
-- hook not used: d41
-- hook not used: d42
-- hook not used: d44
-- hook not used: n4.11
-- hook not used: d54
-- hook not used: d55
-- hook not used: d57
-- hook not used: d59
-- hook not used: n6.10
-- hook not used: d61
-- hook not used: n6.13
-- hook not used: d9
-- hook not used: d10
-- hook not used: d12
-- hook not used: d14
-- hook not used: n0.9
-- (*signet/name.reader).take
theorem take54f (g r : Nat) (t : ByteArray) (s : PS) (vn vl vc : Value) (w : World) (hr : RdV w g s vn vl vc) (_hs : Sml s 100000000) (_ht : t.size ≤ 100000000) (_hcode : s.code = []) (hcl : s.code.length = 0) (hsg : s.sign = false) (h46 : r = 46) (hend : s.l = []) : Steps 54 #[.pointer (some ⟨g, 0, none⟩), .int .i32 r, sv t] g none w := by
  have hlt := hr.lt
  obtain ⟨A, c, hv, -⟩ := id hr.oc.sl
  rw [List.length_map] at hv
  subst hv
  show Panics _ _ _ _ _ _
  refine enter (N := 73) (args := [_, _, _]) Try.func54 rfl rfl (Nat.le_of_ble_eq_true rfl) ?_
  refine CW.block ?_
  refine CW.seq ?_
  refine CW.region ?_
  refine WL.v (Val.move rfl rfl) ?_ -- d16
  refine WL.v (Val.nilCheck rfl rfl) ?_ -- d17
  refine WL.v (Val.fieldAddr ⟨g, 2, none⟩ rfl rfl (fun _ => by kernel_rfl)) ?_
  refine WL.v (Val.load rfl pl25 rfl (at_ hr.f2.1)) ?_
  refine WL.v (Val.lenSl rfl Try.underlying25 rfl) ?_ -- d20
  refine WL.v (Val.gtr rfl rfl rfl) ?_ -- d21
  refine WL.v (Val.assign rfl rfl) ?_ -- d15
  refine WL.nil ?_
  refine Ends.next ?_
  refine CW.condF rfl (decide_eq_false (by omega)) ?_
  refine CW.seq ?_
  refine CW.region ?_
  refine WL.v (Val.move rfl rfl) ?_ -- d26
  refine WL.v (Val.nilCheck rfl rfl) ?_ -- d27
  refine WL.v (Val.fieldAddr ⟨g, 3, none⟩ rfl rfl (fun _ => by kernel_rfl)) ?_
  refine WL.v (Val.load rfl pl4 rfl (at_ hr.f3.1)) ?_
  refine WL.v (Val.move rfl rfl) ?_ -- d30
  refine WL.and (j := 4) (seg := [_, _]) (r := decide (48 ≤ (r : Int) ∧ (r : Int) ≤ 57)) rfl rfl rfl rfl (fun hb33 HK33 => ?hT1) ?_
  case hT1 =>
    refine WL.yes rfl rfl rfl hb33 ?_
    refine WL.v (Val.move rfl rfl) ?_ -- d31
    refine WL.yes rfl rfl rfl hb33 ?_
    refine WL.call bodied65 rfl rfl (digit65 r w) ?_
    rintro _ _ ⟨rfl, rfl⟩
    refine WL.v (Val.pickT rfl rfl hb33 rfl) ?_
    refine WL.forget rfl ?_; refine WL.forget rfl ?_
    exact HK33
  refine WL.v (Val.assign rfl rfl) ?_ -- d25
  refine WL.nil ?_
  refine Ends.next ?_
  refine CW.condF rfl (by rw [hsg]; rfl) ?_
  refine CW.seq ?_
  refine CW.region ?_
  refine WL.v (Val.move rfl rfl) ?_ -- d46
  refine WL.v (Val.nilCheck rfl rfl) ?_ -- d47
  refine WL.v (Val.fieldAddr ⟨g, 3, none⟩ rfl rfl (fun _ => by kernel_rfl)) ?_
  refine WL.v (Val.load rfl pl4 rfl (at_ hr.f3.1)) ?_
  refine WL.v (Val.assign rfl rfl) ?_ -- d45
  refine WL.nil ?_
  refine Ends.next ?_
  refine CW.condF rfl (hsg) ?_
  refine CW.seq ?_
  refine CW.region ?_
  refine WL.v (Val.move rfl rfl) ?_ -- d63
  refine WL.v (Val.eqlI rfl rfl rfl) ?_ -- d64
  refine WL.v (Val.assign rfl rfl) ?_ -- d62
  refine WL.nil ?_
  refine Ends.next ?_
  refine CW.condF rfl (decide_eq_false (by omega)) ?_
  refine CW.seq ?_
  refine CW.region ?_
  refine WL.v (Val.move rfl rfl) ?_ -- d69
  refine WL.v (Val.eqlI rfl rfl rfl) ?_ -- d70
  refine WL.v (Val.assign rfl rfl) ?_ -- d68
  refine WL.nil ?_
  refine Ends.next ?_
  refine CW.condT rfl (decide_eq_true (by omega)) ?_
  refine CW.region ?_
  refine WL.v (Val.move rfl rfl) ?_ -- d71
  refine WL.callP bodied57 rfl rfl (end57p g s _ _ _ w hr hend) (fun w2 hb2 => ?_)
  refine Ends.blkp ?_
  exact Ends.panicEnd ⟨rfl, hb2⟩
-- hook not used: d37
-- hook not used: d38
-- hook not used: d40
-- hook not used: d41
-- hook not used: d42
-- hook not used: d44
-- hook not used: n4.11
-- hook not used: d54
-- hook not used: d55
-- hook not used: d57
-- hook not used: d59
-- hook not used: n6.10
-- hook not used: d61
-- hook not used: n6.13
-- hook not used: d67
-- hook not used: n8.3
-- hook not used: d9
-- hook not used: d10
-- hook not used: d12
-- hook not used: d14
-- hook not used: n0.9
-- (*signet/name.reader).take
theorem take54g (g r : Nat) (t : ByteArray) (s : PS) (vn vl vc : Value) (w : World) (hr : RdV w g s vn vl vc) (_hs : Sml s 100000000) (_ht : t.size ≤ 100000000) (_hcode : s.code = []) (hcl : s.code.length = 0) (hsg : s.sign = false) (h46 : r = 46) (hend : s.l ≠ []) : Steps 54 #[.pointer (some ⟨g, 0, none⟩), .int .i32 r, sv t] g (some { s with n := s.n ++ [mkS s.l], l := [] }) w := by
  have hlt := hr.lt
  obtain ⟨A, c, hv, -⟩ := id hr.oc.sl
  rw [List.length_map] at hv
  subst hv
  show Runs _ _ _ _ _
  refine enter (N := 73) (args := [_, _, _]) Try.func54 rfl rfl (Nat.le_of_ble_eq_true rfl) ?_
  refine CW.block ?_
  refine CW.seq ?_
  refine CW.region ?_
  refine WL.v (Val.move rfl rfl) ?_ -- d16
  refine WL.v (Val.nilCheck rfl rfl) ?_ -- d17
  refine WL.v (Val.fieldAddr ⟨g, 2, none⟩ rfl rfl (fun _ => by kernel_rfl)) ?_
  refine WL.v (Val.load rfl pl25 rfl (at_ hr.f2.1)) ?_
  refine WL.v (Val.lenSl rfl Try.underlying25 rfl) ?_ -- d20
  refine WL.v (Val.gtr rfl rfl rfl) ?_ -- d21
  refine WL.v (Val.assign rfl rfl) ?_ -- d15
  refine WL.nil ?_
  refine Ends.next ?_
  refine CW.condF rfl (decide_eq_false (by omega)) ?_
  refine CW.seq ?_
  refine CW.region ?_
  refine WL.v (Val.move rfl rfl) ?_ -- d26
  refine WL.v (Val.nilCheck rfl rfl) ?_ -- d27
  refine WL.v (Val.fieldAddr ⟨g, 3, none⟩ rfl rfl (fun _ => by kernel_rfl)) ?_
  refine WL.v (Val.load rfl pl4 rfl (at_ hr.f3.1)) ?_
  refine WL.v (Val.move rfl rfl) ?_ -- d30
  refine WL.and (j := 4) (seg := [_, _]) (r := decide (48 ≤ (r : Int) ∧ (r : Int) ≤ 57)) rfl rfl rfl rfl (fun hb33 HK33 => ?hT1) ?_
  case hT1 =>
    refine WL.yes rfl rfl rfl hb33 ?_
    refine WL.v (Val.move rfl rfl) ?_ -- d31
    refine WL.yes rfl rfl rfl hb33 ?_
    refine WL.call bodied65 rfl rfl (digit65 r w) ?_
    rintro _ _ ⟨rfl, rfl⟩
    refine WL.v (Val.pickT rfl rfl hb33 rfl) ?_
    refine WL.forget rfl ?_; refine WL.forget rfl ?_
    exact HK33
  refine WL.v (Val.assign rfl rfl) ?_ -- d25
  refine WL.nil ?_
  refine Ends.next ?_
  refine CW.condF rfl (by rw [hsg]; rfl) ?_
  refine CW.seq ?_
  refine CW.region ?_
  refine WL.v (Val.move rfl rfl) ?_ -- d46
  refine WL.v (Val.nilCheck rfl rfl) ?_ -- d47
  refine WL.v (Val.fieldAddr ⟨g, 3, none⟩ rfl rfl (fun _ => by kernel_rfl)) ?_
  refine WL.v (Val.load rfl pl4 rfl (at_ hr.f3.1)) ?_
  refine WL.v (Val.assign rfl rfl) ?_ -- d45
  refine WL.nil ?_
  refine Ends.next ?_
  refine CW.condF rfl (hsg) ?_
  refine CW.seq ?_
  refine CW.region ?_
  refine WL.v (Val.move rfl rfl) ?_ -- d63
  refine WL.v (Val.eqlI rfl rfl rfl) ?_ -- d64
  refine WL.v (Val.assign rfl rfl) ?_ -- d62
  refine WL.nil ?_
  refine Ends.next ?_
  refine CW.condF rfl (decide_eq_false (by omega)) ?_
  refine CW.seq ?_
  refine CW.region ?_
  refine WL.v (Val.move rfl rfl) ?_ -- d69
  refine WL.v (Val.eqlI rfl rfl rfl) ?_ -- d70
  refine WL.v (Val.assign rfl rfl) ?_ -- d68
  refine WL.nil ?_
  refine Ends.next ?_
  refine CW.condT rfl (decide_eq_true (by omega)) ?_
  refine CW.region ?_
  refine WL.v (Val.move rfl rfl) ?_ -- d71
  refine WL.call bodied57 rfl rfl (end57r g s _ _ _ w hr hend _hs) ?_
  rintro _ w2 ⟨rfl, hr2, hbc2⟩
  refine WL.nil ?_
  refine Ends.blkn ?_
  exact Ends.end0 rfl ⟨rfl, hr2, hbc2⟩
-- hook not used: d37
-- hook not used: d38
-- hook not used: d40
-- hook not used: d41
-- hook not used: d42
-- hook not used: d44
-- hook not used: n4.11
-- hook not used: d54
-- hook not used: d55
-- hook not used: d57
-- hook not used: d59
-- hook not used: n6.10
-- hook not used: d61
-- hook not used: n6.13
-- hook not used: d67
-- hook not used: n8.3
-- hook not used: d9
-- hook not used: d10
-- hook not used: d12
-- hook not used: d14
-- hook not used: n0.9
-- (*signet/name.reader).take
theorem take54h (g r : Nat) (t : ByteArray) (s : PS) (vn vl vc : Value) (w : World) (hr : RdV w g s vn vl vc) (_hs : Sml s 100000000) (_ht : t.size ≤ 100000000) (_hcode : s.code = []) (hcl : s.code.length = 0) (hsg : s.sign = false) (h92 : r ≠ 92) (h46 : r ≠ 46) : Steps 54 #[.pointer (some ⟨g, 0, none⟩), .int .i32 r, sv t] g (some { s with l := s.l ++ bytes t }) w := by
  have hlt := hr.lt
  obtain ⟨A, c, hv, -⟩ := id hr.oc.sl
  rw [List.length_map] at hv
  subst hv
  show Runs _ _ _ _ _
  refine enter (N := 73) (args := [_, _, _]) Try.func54 rfl rfl (Nat.le_of_ble_eq_true rfl) ?_
  refine CW.block ?_
  refine CW.seq ?_
  refine CW.region ?_
  refine WL.v (Val.move rfl rfl) ?_ -- d16
  refine WL.v (Val.nilCheck rfl rfl) ?_ -- d17
  refine WL.v (Val.fieldAddr ⟨g, 2, none⟩ rfl rfl (fun _ => by kernel_rfl)) ?_
  refine WL.v (Val.load rfl pl25 rfl (at_ hr.f2.1)) ?_
  refine WL.v (Val.lenSl rfl Try.underlying25 rfl) ?_ -- d20
  refine WL.v (Val.gtr rfl rfl rfl) ?_ -- d21
  refine WL.v (Val.assign rfl rfl) ?_ -- d15
  refine WL.nil ?_
  refine Ends.next ?_
  refine CW.condF rfl (decide_eq_false (by omega)) ?_
  refine CW.seq ?_
  refine CW.region ?_
  refine WL.v (Val.move rfl rfl) ?_ -- d26
  refine WL.v (Val.nilCheck rfl rfl) ?_ -- d27
  refine WL.v (Val.fieldAddr ⟨g, 3, none⟩ rfl rfl (fun _ => by kernel_rfl)) ?_
  refine WL.v (Val.load rfl pl4 rfl (at_ hr.f3.1)) ?_
  refine WL.v (Val.move rfl rfl) ?_ -- d30
  refine WL.and (j := 4) (seg := [_, _]) (r := decide (48 ≤ (r : Int) ∧ (r : Int) ≤ 57)) rfl rfl rfl rfl (fun hb33 HK33 => ?hT1) ?_
  case hT1 =>
    refine WL.yes rfl rfl rfl hb33 ?_
    refine WL.v (Val.move rfl rfl) ?_ -- d31
    refine WL.yes rfl rfl rfl hb33 ?_
    refine WL.call bodied65 rfl rfl (digit65 r w) ?_
    rintro _ _ ⟨rfl, rfl⟩
    refine WL.v (Val.pickT rfl rfl hb33 rfl) ?_
    refine WL.forget rfl ?_; refine WL.forget rfl ?_
    exact HK33
  refine WL.v (Val.assign rfl rfl) ?_ -- d25
  refine WL.nil ?_
  refine Ends.next ?_
  refine CW.condF rfl (by rw [hsg]; rfl) ?_
  refine CW.seq ?_
  refine CW.region ?_
  refine WL.v (Val.move rfl rfl) ?_ -- d46
  refine WL.v (Val.nilCheck rfl rfl) ?_ -- d47
  refine WL.v (Val.fieldAddr ⟨g, 3, none⟩ rfl rfl (fun _ => by kernel_rfl)) ?_
  refine WL.v (Val.load rfl pl4 rfl (at_ hr.f3.1)) ?_
  refine WL.v (Val.assign rfl rfl) ?_ -- d45
  refine WL.nil ?_
  refine Ends.next ?_
  refine CW.condF rfl (hsg) ?_
  refine CW.seq ?_
  refine CW.region ?_
  refine WL.v (Val.move rfl rfl) ?_ -- d63
  refine WL.v (Val.eqlI rfl rfl rfl) ?_ -- d64
  refine WL.v (Val.assign rfl rfl) ?_ -- d62
  refine WL.nil ?_
  refine Ends.next ?_
  refine CW.condF rfl (decide_eq_false (by omega)) ?_
  refine CW.seq ?_
  refine CW.region ?_
  refine WL.v (Val.move rfl rfl) ?_ -- d69
  refine WL.v (Val.eqlI rfl rfl rfl) ?_ -- d70
  refine WL.v (Val.assign rfl rfl) ?_ -- d68
  refine WL.nil ?_
  refine Ends.next ?_
  refine CW.condF rfl (decide_eq_false (by omega)) ?_
  refine CW.region ?_
  refine WL.v (Val.move rfl rfl) ?_ -- d6
  refine WL.v (Val.move rfl rfl) ?_ -- d7
  refine WL.v (Val.nilCheck rfl rfl) ?_ -- d8
  refine WL.v (Val.fieldAddr ⟨g, 1, none⟩ rfl rfl (fun _ => by kernel_rfl)) ?_
  refine WL.v (Val.load rfl pl25 rfl (at_ hr.f1.1)) ?_
  refine WL.v (Val.move rfl rfl) ?_ -- d11
  refine WL.apS hr.ol rfl rfl rfl (by have := _hs.1; omega) (by omega) (fun vl2 w2 hown2 hg2 => ?_)
  have hq2 := own_cells hown2
  have hf2 := own_fld hr.f1 hr.ol hg2
  have hr2 := hr.putL hown2 hg2 (by rw [hr.nc _hcode]; exact Ap.nilR _)
  have hbc2 := (Bc.grow hr.ol hlt hg2).trans (Bc.set g 1 w2 vl2)
  refine WL.v (Val.nilCheck rfl rfl) ?_ -- d13
  refine WL.v (Val.fieldAddr ⟨g, 1, none⟩ rfl rfl (fun _ => by kernel_rfl)) ?_
  refine WL.store1 rfl sz25 rfl rfl hq2.1 hq2.2 hf2.1 hf2.2 ?_
  refine WL.nil ?_
  refine Ends.blkn ?_
  exact Ends.end0 rfl ⟨rfl, ⟨_, _, _, hr2⟩, hbc2⟩
-- hook not used: d37
-- hook not used: d38
-- hook not used: d40
-- hook not used: d41
-- hook not used: d42
-- hook not used: d44
-- hook not used: n4.11
-- hook not used: d54
-- hook not used: d55
-- hook not used: d57
-- hook not used: d59
-- hook not used: n6.10
-- hook not used: d61
-- hook not used: n6.13
-- hook not used: d67
-- hook not used: n8.3
theorem take54 (g r : Nat) (t : ByteArray) (s : PS) (vn vl vc : Value) (w : World) (hr : RdV w g s vn vl vc) (hs : Sml s 100000000) (ht : t.size ≤ 100000000) : Steps 54 #[.pointer (some ⟨g, 0, none⟩), .int .i32 r, sv t] g (takeS s r (bytes t)) w := by
  unfold takeS
  by_cases h0 : 0 < s.code.length
  · rw [if_pos h0]
    cases hnum : numS s r with
    | none => exact take54a g r t s vn vl vc w hr hs ht h0 hnum
    | some s2 => exact take54b g r t s vn vl vc w hr hs ht s2 h0 hnum
  · rw [if_neg h0]
    have hcl : s.code.length = 0 := by omega
    have hcode : s.code = [] := List.eq_nil_of_length_eq_zero hcl
    cases hsg : s.sign with
    | true =>
      by_cases hd : digN r
      · rw [if_pos ⟨rfl, hd⟩]
        have := take54c g r t s vn vl vc w hr hs ht hcode hcl hsg hd
        rw [hsg] at this
        exact this
      · rw [if_neg (fun h => hd h.2), if_pos rfl]
        exact take54d g r t s vn vl vc w hr hs ht hcode hcl hsg hd
    | false =>
      rw [if_neg (fun h => by cases h.1), if_neg (by simp)]
      by_cases h92 : r = 92
      · rw [if_pos h92]
        exact take54e g r t s vn vl vc w hr hs ht hcode hcl hsg h92
      · rw [if_neg h92]
        by_cases h46 : r = 46
        · rw [if_pos h46]
          unfold endS
          by_cases hend : s.l = []
          · rw [if_pos hend]
            exact take54f g r t s vn vl vc w hr hs ht hcode hcl hsg h46 hend
          · rw [if_neg hend]
            exact take54g g r t s vn vl vc w hr hs ht hcode hcl hsg h46 hend
        · rw [if_neg h46]
          have := take54h g r t s vn vl vc w hr hs ht hcode hcl hsg h92 h46
          rw [hsg] at this
          exact this
end Go.Proofs.Ytjdgckamjgldmaa
