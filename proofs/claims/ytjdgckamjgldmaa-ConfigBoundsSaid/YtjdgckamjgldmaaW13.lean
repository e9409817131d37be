/- Walks: the reader's numbers; its step. -/
import Derived.Test.YtjdgckamjgldmaaW12
namespace Go.Proofs.Ytjdgckamjgldmaa
open Go.RowKit Go.Eng

theorem u8_sub48 (d : UInt8) : IntKind.u8.wrap ((d.toNat : Int) - 48) = ((d - 48).toNat : Int) := by
  have h := d.toNat_lt
  rw [IntKind.wrap_u8, UInt8.toNat_sub]
  have : (48 : UInt8).toNat = 48 := rfl
  rw [this]
  omega
theorem valS_take {cd : List UInt8} {k : Nat} (hk : k < cd.length) : valS (cd.take (k + 1)) = 10 * valS (cd.take k) + (cd[k] - 48).toNat := by
  unfold valS
  rw [List.take_succ_eq_append_getElem hk, List.foldl_append]
  rfl
theorem Rd_cells {w : World} {g : Nat} {s : PS} {vn vl vc : Value} (h : RdV w g s vn vl vc) : (vn.cells = #[vn] ∧ vn.oneCell' = true) ∧ (vl.cells = #[vl] ∧ vl.oneCell' = true) ∧ (vc.cells = #[vc] ∧ vc.oneCell' = true) := ⟨own_cells h.on, own_cells h.ol, own_cells h.oc⟩
-- (*signet/name.reader).number
theorem num64a (g r : Nat) (s : PS) (vn vl vc : Value) (w : World) (hr : RdV w g s vn vl vc) (hd : ¬ digN r) : Steps 64 #[.pointer (some ⟨g, 0, none⟩), .int .i32 r] g none w := by
  have hlt := hr.lt
  show Panics _ _ _ _ _ _
  refine enter (N := 64) (args := [_, _]) Try.func64 rfl rfl (Nat.le_of_ble_eq_true rfl) ?_
  refine CW.seq ?_
  refine CW.seq ?_
  refine CW.region ?_
  refine WL.v (Val.move rfl rfl) ?_ -- d7
  refine WL.call bodied65 rfl rfl (digit65 r w) ?_
  rintro _ _ ⟨rfl, rfl⟩
  refine WL.v (Val.not rfl rfl) ?_ -- d9
  refine WL.nil ?_
  refine Ends.next ?_
  refine CW.condT rfl (by simp only [digN] at hd; simp; omega) ?_
  refine CW.region ?_
  refine WL.callP bodied56 rfl rfl (fail56 _ _) ?_
  rintro _ rfl
  refine Ends.seqp ?_
  exact Ends.panicEnd ⟨rfl, Below.refl _ _⟩
-- hook not used: d14
-- hook not used: d15
-- hook not used: d17
-- hook not used: d18
-- hook not used: d19
-- hook not used: d21
-- hook not used: n2.11
-- hook not used: d24
-- hook not used: d25
-- hook not used: d30
-- hook not used: d31
-- hook not used: loop0
-- hook not used: d35
-- hook not used: d40
-- hook not used: round0
-- hook not used: d46
-- hook not used: d52
-- hook not used: d53
-- hook not used: d55
-- hook not used: d56
-- hook not used: d57
-- hook not used: d59
-- hook not used: n12.13
-- hook not used: d61
-- hook not used: n12.16
-- hook not used: d63
-- hook not used: n12.19
-- (*signet/name.reader).number
theorem num64c (g r : Nat) (s : PS) (vn vl vc : Value) (w : World) (hr : RdV w g s vn vl vc) (hs : Sml s 100000000) (hd : digN r) (h3 : (s.code ++ [UInt8.ofNat r]).length < 3) : Steps 64 #[.pointer (some ⟨g, 0, none⟩), .int .i32 r] g (some { s with code := s.code ++ [UInt8.ofNat r] }) w := by
  have hlt := hr.lt
  show Runs _ _ _ _ _
  refine enter (N := 64) (args := [_, _]) Try.func64 rfl rfl (Nat.le_of_ble_eq_true rfl) ?_
  refine CW.seq ?_
  refine CW.seq ?_
  refine CW.region ?_
  refine WL.v (Val.move rfl rfl) ?_ -- d7
  refine WL.call bodied65 rfl rfl (digit65 r w) ?_
  rintro _ _ ⟨rfl, rfl⟩
  refine WL.v (Val.not rfl rfl) ?_ -- d9
  refine WL.nil ?_
  refine Ends.next ?_
  refine CW.condF rfl (by simp only [digN] at hd; simp; omega) ?_
  refine CW.skip ?_
  refine Ends.next ?_
  refine CW.seq ?_
  refine CW.seq ?_
  refine CW.region ?_
  refine WL.v (Val.move rfl rfl) ?_ -- d11
  refine WL.v (Val.move rfl rfl) ?_ -- d12
  refine WL.v (Val.nilCheck rfl rfl) ?_ -- d13
  refine WL.v (Val.fieldAddr ⟨g, 2, none⟩ rfl rfl (fun _ => by kernel_rfl)) ?_
  refine WL.v (Val.load rfl pl25 rfl (at_ hr.f2.1)) ?_
  refine WL.v (Val.move rfl rfl) ?_ -- d16
  refine WL.v (Val.convI rfl Try.underlying21 Try.underlying5 rfl _ (wrapU8 r)) ?_
  refine WL.build1 ty25 rfl rfl rfl ?_
  refine WL.apB (UInt8.ofNat r) hr.oc rfl rfl rfl (by have := hs.2.2; omega) (by omega) (fun vc2 w2 hown2 hg2 hat2 => ?_)
  refine WL.v (Val.nilCheck rfl rfl) ?_ -- d20
  refine WL.v (Val.fieldAddr ⟨g, 2, none⟩ rfl rfl (fun _ => by kernel_rfl)) ?_
  have hq2 := own_cells hown2
  have hf2 := own_fld hr.f2 hr.oc hg2
  have hr2 := hr.putC hown2 hg2 hat2 (by simp)
  have hbc2 := (Bc.grow hr.oc hlt hg2).trans (Bc.set g 2 w2 vc2)
  refine WL.store1 rfl sz25 rfl rfl hq2.1 hq2.2 hf2.1 hf2.2 ?_
  generalize w2.setCell ⟨g, 2, none⟩ vc2 = w3 at *
  generalize hcd : s.code ++ [UInt8.ofNat r] = cd at *
  have hcl : cd.length ≤ 3 := by
    have := hs.2.2
    rw [← hcd, List.length_append, List.length_singleton]
    omega
  obtain ⟨Ac, cc, hvc2, -⟩ := id hr2.oc.sl
  simp only [List.length_map] at hvc2
  subst hvc2
  refine WL.nil ?_
  refine Ends.next ?_
  refine CW.seq ?_
  refine CW.region ?_
  refine WL.v (Val.move rfl rfl) ?_ -- d22
  refine WL.v (Val.nilCheck rfl rfl) ?_ -- d23
  refine WL.v (Val.fieldAddr ⟨g, 2, none⟩ rfl rfl (fun _ => by kernel_rfl)) ?_
  refine WL.v (Val.load rfl pl25 rfl (at_ hr2.f2.1)) ?_
  refine WL.v (Val.lenSl rfl Try.underlying25 rfl) ?_ -- d26
  refine WL.v (Val.lss rfl rfl rfl) ?_ -- d27
  refine WL.nil ?_
  refine Ends.next ?_
  refine CW.condT rfl (decide_eq_true (by omega)) ?_
  refine CW.ret ?_
  refine Ends.seqr ?_
  exact Ends.ret0 rfl ⟨rfl, ⟨_, _, _, hr2⟩, hbc2⟩
-- hook not used: d30
-- hook not used: d31
-- hook not used: loop0
-- hook not used: d35
-- hook not used: d40
-- hook not used: round0
-- hook not used: d46
-- hook not used: d10
-- hook not used: d52
-- hook not used: d53
-- hook not used: d55
-- hook not used: d56
-- hook not used: d57
-- hook not used: d59
-- hook not used: n12.13
-- hook not used: d61
-- hook not used: n12.16
-- hook not used: d63
-- hook not used: n12.19
-- (*signet/name.reader).number
theorem num64b (g r : Nat) (s : PS) (vn vl vc : Value) (w : World) (hr : RdV w g s vn vl vc) (hs : Sml s 100000000) (hd : digN r) (h3 : ¬ (s.code ++ [UInt8.ofNat r]).length < 3) (hv : 255 < valS (s.code ++ [UInt8.ofNat r])) : Steps 64 #[.pointer (some ⟨g, 0, none⟩), .int .i32 r] g none w := by
  have hlt := hr.lt
  show Panics _ _ _ _ _ _
  refine enter (N := 64) (args := [_, _]) Try.func64 rfl rfl (Nat.le_of_ble_eq_true rfl) ?_
  refine CW.seq ?_
  refine CW.seq ?_
  refine CW.region ?_
  refine WL.v (Val.move rfl rfl) ?_ -- d7
  refine WL.call bodied65 rfl rfl (digit65 r w) ?_
  rintro _ _ ⟨rfl, rfl⟩
  refine WL.v (Val.not rfl rfl) ?_ -- d9
  refine WL.nil ?_
  refine Ends.next ?_
  refine CW.condF rfl (by simp only [digN] at hd; simp; omega) ?_
  refine CW.skip ?_
  refine Ends.next ?_
  refine CW.seq ?_
  refine CW.seq ?_
  refine CW.region ?_
  refine WL.v (Val.move rfl rfl) ?_ -- d11
  refine WL.v (Val.move rfl rfl) ?_ -- d12
  refine WL.v (Val.nilCheck rfl rfl) ?_ -- d13
  refine WL.v (Val.fieldAddr ⟨g, 2, none⟩ rfl rfl (fun _ => by kernel_rfl)) ?_
  refine WL.v (Val.load rfl pl25 rfl (at_ hr.f2.1)) ?_
  refine WL.v (Val.move rfl rfl) ?_ -- d16
  refine WL.v (Val.convI rfl Try.underlying21 Try.underlying5 rfl _ (wrapU8 r)) ?_
  refine WL.build1 ty25 rfl rfl rfl ?_
  refine WL.apB (UInt8.ofNat r) hr.oc rfl rfl rfl (by have := hs.2.2; omega) (by omega) (fun vc2 w2 hown2 hg2 hat2 => ?_)
  refine WL.v (Val.nilCheck rfl rfl) ?_ -- d20
  refine WL.v (Val.fieldAddr ⟨g, 2, none⟩ rfl rfl (fun _ => by kernel_rfl)) ?_
  have hq2 := own_cells hown2
  have hf2 := own_fld hr.f2 hr.oc hg2
  have hr2 := hr.putC hown2 hg2 hat2 (by simp)
  have hbc2 := (Bc.grow hr.oc hlt hg2).trans (Bc.set g 2 w2 vc2)
  refine WL.store1 rfl sz25 rfl rfl hq2.1 hq2.2 hf2.1 hf2.2 ?_
  generalize w2.setCell ⟨g, 2, none⟩ vc2 = w3 at *
  generalize hcd : s.code ++ [UInt8.ofNat r] = cd at *
  have hcl : cd.length ≤ 3 := by
    have := hs.2.2
    rw [← hcd, List.length_append, List.length_singleton]
    omega
  obtain ⟨Ac, cc, hvc2, -⟩ := id hr2.oc.sl
  simp only [List.length_map] at hvc2
  subst hvc2
  refine WL.nil ?_
  refine Ends.next ?_
  refine CW.seq ?_
  refine CW.region ?_
  refine WL.v (Val.move rfl rfl) ?_ -- d22
  refine WL.v (Val.nilCheck rfl rfl) ?_ -- d23
  refine WL.v (Val.fieldAddr ⟨g, 2, none⟩ rfl rfl (fun _ => by kernel_rfl)) ?_
  refine WL.v (Val.load rfl pl25 rfl (at_ hr2.f2.1)) ?_
  refine WL.v (Val.lenSl rfl Try.underlying25 rfl) ?_ -- d26
  refine WL.v (Val.lss rfl rfl rfl) ?_ -- d27
  refine WL.nil ?_
  refine Ends.next ?_
  refine CW.condF rfl (decide_eq_false (by omega)) ?_
  refine CW.skip ?_
  refine Ends.next ?_
  refine CW.seq ?_
  refine CW.region ?_
  refine WL.v (Val.assign rfl rfl) ?_ -- d4
  refine WL.nil ?_
  refine Ends.next ?_
  refine CW.seq ?_
  refine CW.seq ?_
  refine CW.region ?_
  refine WL.v (Val.move rfl rfl) ?_ -- d28
  refine WL.v (Val.nilCheck rfl rfl) ?_ -- d29
  refine WL.v (Val.fieldAddr ⟨g, 2, none⟩ rfl rfl (fun _ => by kernel_rfl)) ?_
  refine WL.v (Val.load rfl pl25 rfl (at_ hr2.f2.1)) ?_
  refine WL.v (Val.lenSl rfl Try.underlying25 rfl) ?_ -- d32
  refine WL.v (Val.move rfl rfl) ?_ -- d33
  refine WL.nil ?_
  refine Ends.next ?_
  refine CW.block ?_
  refine CW.loop (α := Nat × Nat) (fun (k, c) => [(0, .pointer (some ⟨g, 0, none⟩)), (4, .int .i64 c), (31, .slice Ac cd.length cc), (32, .int .i64 cd.length), (33, .int .i64 k)]) (fun (k, c) w1 => k ≤ cd.length ∧ c = valS (cd.take k) ∧ w3 = w1 ∧ ((k = 0 → c = 0) ∧ (k = 1 → c ≤ 255) ∧ (k = 2 → c ≤ 3000) ∧ (k = 3 → c ≤ 31000))) (fun (k, c) => cd.length - k) (0, 0) ⟨rfl, rfl, rfl, rfl, rfl, trivial⟩ ⟨Nat.zero_le _, rfl, rfl, by omega⟩ ?_
  rintro ⟨k, c⟩ w1 ⟨hk, hc, rfl, hbd⟩
  refine CW.seq ?_
  refine CW.region ?_
  refine WL.v (Val.lss rfl rfl rfl) ?_ -- d34
  refine WL.nil ?_
  refine Ends.next ?_
  refine CW.seq ?_
  refine CW.condD rfl (fun hc2 => ?_) (fun hc2 => ?_)
  · -- yes
    have hklt : k < cd.length := by omega
    have hdt := (cd[k] - 48).toNat_lt
    refine CW.skip ?_
    refine Ends.next ?_
    refine CW.seq ?_
    refine CW.block ?_
    refine CW.seq ?_
    refine CW.region ?_
    refine WL.elem ty25 hr2.oc.sl rfl rfl rfl rfl (by omega) (v := bv cd[k]) (by simp [hklt]) (fun _ => ?_)
    refine WL.v (Val.assign rfl rfl) ?_ -- d6
    refine WL.nil ?_
    refine Ends.next ?_
    refine CW.region ?_
    refine WL.v (Val.move rfl rfl) ?_ -- d37
    refine WL.v (Val.mul rfl rfl rfl _ (IntWalk.i64_in _ (by omega))) ?_ -- d38
    refine WL.v (Val.move rfl rfl) ?_ -- d39
    refine WL.v (Val.subt rfl rfl rfl _ (u8_sub48 _)) ?_
    refine WL.v (Val.convI rfl Try.underlying5 Try.underlying3 rfl _ (IntWalk.i64_in _ (by omega))) ?_ -- d41
    refine WL.v (Val.add rfl rfl rfl _ (IntWalk.i64_in _ (by omega))) ?_ -- d42
    refine WL.v (Val.assign rfl rfl) ?_ -- d4
    refine WL.nil ?_
    refine Ends.blkn ?_
    refine Ends.next ?_
    refine CW.region ?_
    refine WL.v (Val.add rfl rfl rfl _ (IntWalk.i64_in _ (by omega))) ?_ -- d43
    refine WL.v (Val.move rfl rfl) ?_ -- d33
    refine WL.nil ?_
    exact Ends.round (k + 1, 10 * c + (cd[k] - 48).toNat) (by simp only; omega) ⟨rfl, by simp only [Env.get]; rfl, rfl, rfl, rfl, trivial⟩ ⟨by omega, by rw [valS_take hklt, hc], rfl, by omega⟩
  · -- no
    have hke : k = cd.length := by omega
    rw [hke, List.take_length] at hc
    refine CW.exit ?_
    refine Ends.seqx ?_
    refine Ends.seqx ?_
    refine Ends.blke ?_
    refine Ends.next ?_
    refine CW.seq ?_
    refine CW.seq ?_
    refine CW.region ?_
    refine WL.v (Val.move rfl rfl) ?_ -- d44
    refine WL.v (Val.gtr rfl rfl rfl) ?_ -- d45
    refine WL.nil ?_
    refine Ends.next ?_
    refine CW.condT rfl (decide_eq_true (by omega)) ?_
    refine CW.region ?_
    refine WL.callP bodied56 rfl rfl (fail56 _ _) ?_
    rintro _ rfl
    refine Ends.seqp ?_
    exact Ends.panicEnd ⟨rfl, hbc2.1⟩
-- hook not used: d10
-- hook not used: d52
-- hook not used: d53
-- hook not used: d55
-- hook not used: d56
-- hook not used: d57
-- hook not used: d59
-- hook not used: n12.13
-- hook not used: d61
-- hook not used: n12.16
-- hook not used: d63
-- hook not used: n12.19
-- (*signet/name.reader).number
theorem num64d (g r : Nat) (s : PS) (vn vl vc : Value) (w : World) (hr : RdV w g s vn vl vc) (hs : Sml s 100000000) (hd : digN r) (h3 : ¬ (s.code ++ [UInt8.ofNat r]).length < 3) (hv : ¬ 255 < valS (s.code ++ [UInt8.ofNat r])) : Steps 64 #[.pointer (some ⟨g, 0, none⟩), .int .i32 r] g (some { s with l := s.l ++ [UInt8.ofNat (valS (s.code ++ [UInt8.ofNat r]))], code := [], sign := false }) w := by
  have hlt := hr.lt
  show Runs _ _ _ _ _
  refine enter (N := 64) (args := [_, _]) Try.func64 rfl rfl (Nat.le_of_ble_eq_true rfl) ?_
  refine CW.seq ?_
  refine CW.seq ?_
  refine CW.region ?_
  refine WL.v (Val.move rfl rfl) ?_ -- d7
  refine WL.call bodied65 rfl rfl (digit65 r w) ?_
  rintro _ _ ⟨rfl, rfl⟩
  refine WL.v (Val.not rfl rfl) ?_ -- d9
  refine WL.nil ?_
  refine Ends.next ?_
  refine CW.condF rfl (by simp only [digN] at hd; simp; omega) ?_
  refine CW.skip ?_
  refine Ends.next ?_
  refine CW.seq ?_
  refine CW.seq ?_
  refine CW.region ?_
  refine WL.v (Val.move rfl rfl) ?_ -- d11
  refine WL.v (Val.move rfl rfl) ?_ -- d12
  refine WL.v (Val.nilCheck rfl rfl) ?_ -- d13
  refine WL.v (Val.fieldAddr ⟨g, 2, none⟩ rfl rfl (fun _ => by kernel_rfl)) ?_
  refine WL.v (Val.load rfl pl25 rfl (at_ hr.f2.1)) ?_
  refine WL.v (Val.move rfl rfl) ?_ -- d16
  refine WL.v (Val.convI rfl Try.underlying21 Try.underlying5 rfl _ (wrapU8 r)) ?_
  refine WL.build1 ty25 rfl rfl rfl ?_
  refine WL.apB (UInt8.ofNat r) hr.oc rfl rfl rfl (by have := hs.2.2; omega) (by omega) (fun vc2 w2 hown2 hg2 hat2 => ?_)
  refine WL.v (Val.nilCheck rfl rfl) ?_ -- d20
  refine WL.v (Val.fieldAddr ⟨g, 2, none⟩ rfl rfl (fun _ => by kernel_rfl)) ?_
  have hq2 := own_cells hown2
  have hf2 := own_fld hr.f2 hr.oc hg2
  have hr2 := hr.putC hown2 hg2 hat2 (by simp)
  have hbc2 := (Bc.grow hr.oc hlt hg2).trans (Bc.set g 2 w2 vc2)
  refine WL.store1 rfl sz25 rfl rfl hq2.1 hq2.2 hf2.1 hf2.2 ?_
  generalize w2.setCell ⟨g, 2, none⟩ vc2 = w3 at *
  generalize hcd : s.code ++ [UInt8.ofNat r] = cd at *
  have hcl : cd.length ≤ 3 := by
    have := hs.2.2
    rw [← hcd, List.length_append, List.length_singleton]
    omega
  obtain ⟨Ac, cc, hvc2, -⟩ := id hr2.oc.sl
  simp only [List.length_map] at hvc2
  subst hvc2
  refine WL.nil ?_
  refine Ends.next ?_
  refine CW.seq ?_
  refine CW.region ?_
  refine WL.v (Val.move rfl rfl) ?_ -- d22
  refine WL.v (Val.nilCheck rfl rfl) ?_ -- d23
  refine WL.v (Val.fieldAddr ⟨g, 2, none⟩ rfl rfl (fun _ => by kernel_rfl)) ?_
  refine WL.v (Val.load rfl pl25 rfl (at_ hr2.f2.1)) ?_
  refine WL.v (Val.lenSl rfl Try.underlying25 rfl) ?_ -- d26
  refine WL.v (Val.lss rfl rfl rfl) ?_ -- d27
  refine WL.nil ?_
  refine Ends.next ?_
  refine CW.condF rfl (decide_eq_false (by omega)) ?_
  refine CW.skip ?_
  refine Ends.next ?_
  refine CW.seq ?_
  refine CW.region ?_
  refine WL.v (Val.assign rfl rfl) ?_ -- d4
  refine WL.nil ?_
  refine Ends.next ?_
  refine CW.seq ?_
  refine CW.seq ?_
  refine CW.region ?_
  refine WL.v (Val.move rfl rfl) ?_ -- d28
  refine WL.v (Val.nilCheck rfl rfl) ?_ -- d29
  refine WL.v (Val.fieldAddr ⟨g, 2, none⟩ rfl rfl (fun _ => by kernel_rfl)) ?_
  refine WL.v (Val.load rfl pl25 rfl (at_ hr2.f2.1)) ?_
  refine WL.v (Val.lenSl rfl Try.underlying25 rfl) ?_ -- d32
  refine WL.v (Val.move rfl rfl) ?_ -- d33
  refine WL.nil ?_
  refine Ends.next ?_
  refine CW.block ?_
  refine CW.loop (α := Nat × Nat) (fun (k, c) => [(0, .pointer (some ⟨g, 0, none⟩)), (4, .int .i64 c), (31, .slice Ac cd.length cc), (32, .int .i64 cd.length), (33, .int .i64 k)]) (fun (k, c) w1 => k ≤ cd.length ∧ c = valS (cd.take k) ∧ w3 = w1 ∧ ((k = 0 → c = 0) ∧ (k = 1 → c ≤ 255) ∧ (k = 2 → c ≤ 3000) ∧ (k = 3 → c ≤ 31000))) (fun (k, c) => cd.length - k) (0, 0) ⟨rfl, rfl, rfl, rfl, rfl, trivial⟩ ⟨Nat.zero_le _, rfl, rfl, by omega⟩ ?_
  rintro ⟨k, c⟩ w1 ⟨hk, hc, rfl, hbd⟩
  refine CW.seq ?_
  refine CW.region ?_
  refine WL.v (Val.lss rfl rfl rfl) ?_ -- d34
  refine WL.nil ?_
  refine Ends.next ?_
  refine CW.seq ?_
  refine CW.condD rfl (fun hc2 => ?_) (fun hc2 => ?_)
  · -- yes
    have hklt : k < cd.length := by omega
    have hdt := (cd[k] - 48).toNat_lt
    refine CW.skip ?_
    refine Ends.next ?_
    refine CW.seq ?_
    refine CW.block ?_
    refine CW.seq ?_
    refine CW.region ?_
    refine WL.elem ty25 hr2.oc.sl rfl rfl rfl rfl (by omega) (v := bv cd[k]) (by simp [hklt]) (fun _ => ?_)
    refine WL.v (Val.assign rfl rfl) ?_ -- d6
    refine WL.nil ?_
    refine Ends.next ?_
    refine CW.region ?_
    refine WL.v (Val.move rfl rfl) ?_ -- d37
    refine WL.v (Val.mul rfl rfl rfl _ (IntWalk.i64_in _ (by omega))) ?_ -- d38
    refine WL.v (Val.move rfl rfl) ?_ -- d39
    refine WL.v (Val.subt rfl rfl rfl _ (u8_sub48 _)) ?_
    refine WL.v (Val.convI rfl Try.underlying5 Try.underlying3 rfl _ (IntWalk.i64_in _ (by omega))) ?_ -- d41
    refine WL.v (Val.add rfl rfl rfl _ (IntWalk.i64_in _ (by omega))) ?_ -- d42
    refine WL.v (Val.assign rfl rfl) ?_ -- d4
    refine WL.nil ?_
    refine Ends.blkn ?_
    refine Ends.next ?_
    refine CW.region ?_
    refine WL.v (Val.add rfl rfl rfl _ (IntWalk.i64_in _ (by omega))) ?_ -- d43
    refine WL.v (Val.move rfl rfl) ?_ -- d33
    refine WL.nil ?_
    exact Ends.round (k + 1, 10 * c + (cd[k] - 48).toNat) (by simp only; omega) ⟨rfl, by simp only [Env.get]; rfl, rfl, rfl, rfl, trivial⟩ ⟨by omega, by rw [valS_take hklt, hc], rfl, by omega⟩
  · -- no
    have hke : k = cd.length := by omega
    rw [hke, List.take_length] at hc
    refine CW.exit ?_
    refine Ends.seqx ?_
    refine Ends.seqx ?_
    refine Ends.blke ?_
    refine Ends.next ?_
    refine CW.seq ?_
    refine CW.seq ?_
    refine CW.region ?_
    refine WL.v (Val.move rfl rfl) ?_ -- d44
    refine WL.v (Val.gtr rfl rfl rfl) ?_ -- d45
    refine WL.nil ?_
    refine Ends.next ?_
    refine CW.condF rfl (decide_eq_false (by omega)) ?_
    refine CW.skip ?_
    refine Ends.next ?_
    refine CW.region ?_
    refine WL.v (Val.move rfl rfl) ?_ -- d47
    refine WL.v (Val.move rfl rfl) ?_ -- d48
    refine WL.v (Val.move rfl rfl) ?_ -- d49
    refine WL.v (Val.move rfl rfl) ?_ -- d50
    refine WL.v (Val.nilCheck rfl rfl) ?_ -- d51
    refine WL.v (Val.fieldAddr ⟨g, 1, none⟩ rfl rfl (fun _ => by kernel_rfl)) ?_
    refine WL.v (Val.load rfl pl25 rfl (at_ hr2.f1.1)) ?_
    refine WL.v (Val.move rfl rfl) ?_ -- d54
    refine WL.v (Val.convI rfl Try.underlying3 Try.underlying5 rfl _ (wrapU8 c)) ?_
    refine WL.build1 ty25 rfl rfl rfl ?_
    have hlt3 := hr2.lt
    refine WL.apB (UInt8.ofNat c) hr2.ol rfl rfl rfl (by have := hs.1; simp only; omega) (by omega) (fun vl3 w4 hown4 hg4 hat4 => ?_)
    refine WL.v (Val.nilCheck rfl rfl) ?_ -- d58
    refine WL.v (Val.fieldAddr ⟨g, 1, none⟩ rfl rfl (fun _ => by kernel_rfl)) ?_
    have hq4 := own_cells hown4
    have hf4 := own_fld hr2.f1 hr2.ol hg4
    have hr4 := hr2.putL hown4 hg4 (hr2.ap.step hr2.oc hat4)
    have hbc4 := (hbc2.trans (Bc.grow hr2.ol hlt3 hg4)).trans (Bc.set g 1 w4 vl3)
    refine WL.store1 rfl sz25 rfl rfl hq4.1 hq4.2 hf4.1 hf4.2 ?_
    refine WL.v (Val.nilCheck rfl rfl) ?_ -- d60
    refine WL.v (Val.fieldAddr ⟨g, 2, none⟩ rfl rfl (fun _ => by kernel_rfl)) ?_
    have hr5 := hr4.clearC
    refine WL.store1 rfl sz25 rfl rfl rfl rfl hr4.f2.1 hr4.f2.2 ?_
    refine WL.v (Val.nilCheck rfl rfl) ?_ -- d62
    refine WL.v (Val.fieldAddr ⟨g, 3, none⟩ rfl rfl (fun _ => by kernel_rfl)) ?_
    have hr6 := hr5.putS false
    refine WL.store1 rfl sz4 rfl rfl rfl rfl hr5.f3.1 hr5.f3.2 ?_
    refine WL.nil ?_
    subst hc
    exact Ends.end0 rfl ⟨rfl, ⟨_, _, _, hr6⟩, (hbc4.trans (Bc.set g 2 _ _)).trans (Bc.set g 3 _ _)⟩
-- hook not used: d46
-- hook not used: d10
theorem num64 (g r : Nat) (s : PS) (vn vl vc : Value) (w : World) (hr : RdV w g s vn vl vc) (hs : Sml s 100000000) : Steps 64 #[.pointer (some ⟨g, 0, none⟩), .int .i32 r] g (numS s r) w := by
  unfold numS
  by_cases hd : digN r
  · rw [if_pos hd]
    by_cases h3 : (s.code ++ [UInt8.ofNat r]).length < 3
    · rw [if_pos h3]
      exact num64c g r s vn vl vc w hr hs hd h3
    · rw [if_neg h3]
      by_cases hv : 255 < valS (s.code ++ [UInt8.ofNat r])
      · rw [if_pos hv]
        exact num64b g r s vn vl vc w hr hs hd h3 hv
      · rw [if_neg hv]
        exact num64d g r s vn vl vc w hr hs hd h3 hv
  · rw [if_neg hd]
    exact num64a g r s vn vl vc w hr hd
end Go.Proofs.Ytjdgckamjgldmaa
