/- Walks: the chapter's examples. -/
import Derived.Test.YtjdgckamjgldmaaW1
import Derived.Test.YtjdgckamjgldmaaW2
import Derived.Test.YtjdgckamjgldmaaW5
import Derived.Test.YtjdgckamjgldmaaW6
import Derived.Test.YtjdgckamjgldmaaW7
import Derived.Test.YtjdgckamjgldmaaW8
import Derived.Test.YtjdgckamjgldmaaW16
namespace Go.Proofs.Ytjdgckamjgldmaa
open Go.RowKit Go.Eng

theorem bodied25 : Bodied Try.prog 25 := bodied Try.func25 rfl rfl
section
variable {N : Nat} {ds : List Deferred} {e : Env} {w : World} {Q : Exit → Act → World → Prop} {ops : Array Oper} {rest : List Oper} {o : Oper}
theorem WL.one {x : Operand} {d : Tmp} (s : ByteArray) (ho : o.op = .buildSlice 23 1 #[(0, x)]) (hx : Opd e x = some (sv s))
    (K : ∀ u w', Nm w' u [s] → Below w.heap.size w w' → WL Try.prog N ds ops Q rest ((d, u) :: e) w')
    (hg : o.guard = none := by rfl) (hd : o.dst = some d := by rfl) (hdN : d < N := by decide) : WL Try.prog N ds ops Q (o :: rest) e w :=
  WL.build1 ty23 ho hx rfl (K _ _ ⟨_, 1, rfl, Nat.le_refl _, fun _ => ⟨_, rfl, fun j u hu => by
    match j, hu with
    | 0, hu =>
      cases hu
      exact cell_new w _ _⟩⟩ (below_alloc w _)) hg hd hdN
end
def exA : List ByteArray := [⟨#[97]⟩, ⟨#[69, 120, 97, 109, 112, 108, 101]⟩]
theorem kn1 : parseN (bytes ⟨#[97, 46, 69, 120, 97, 109, 112, 108, 101, 46]⟩) = (exA, 0) := by kernel_rfl
theorem kn2 : parseN (bytes ⟨#[97, 46, 46, 98]⟩) = ([], 30) := by kernel_rfl
theorem kn3 : openN [1, 97, 0, 9] = ([⟨#[97]⟩], 3, 0) := by kernel_rfl
theorem kn4 : mkS (textN exA) = ⟨#[97, 46, 69, 120, 97, 109, 112, 108, 101, 46]⟩ := by kernel_rfl
theorem kn5 : cmpN [⟨#[101, 120, 97, 109, 112, 108, 101]⟩] exA = -1 := by kernel_rfl
theorem kn6 : withinN exA [⟨#[69, 88, 65, 77, 80, 76, 69]⟩] = true := by kernel_rfl
theorem kn7 : (wireL exA ++ [0]).length = 11 := by kernel_rfl
theorem kn8 : wildN [⟨#[42]⟩] = true := by kernel_rfl
theorem okA : OkN exA := ⟨by decide, by intro s hs; simp [exA] at hs; rcases hs with rfl | rfl <;> decide⟩
theorem okOne (s : ByteArray) (h : s.size ≤ 1000000) : OkN [s] := ⟨by simp, by intro x hx; simp at hx; subst hx; exact h⟩
-- signet/signetlaw3.known
theorem known25 (w : World) : Runs Try.prog 25 #[] w fun r w' => r = .bool true ∧ Below w.heap.size w w' := by
  refine enter (N := 67) (args := []) Try.func25 rfl rfl (Nat.le_of_ble_eq_true rfl) ?_
  refine CW.seq ?_
  refine CW.region ?_
  refine WL.v (Val.assign rfl rfl) ?_ -- d0
  refine WL.nil ?_
  refine Ends.next ?_
  refine CW.seq ?_
  refine CW.region ?_
  refine WL.call bodied26 rfl rfl (parse26 _ _ (by decide)) ?_
  rw [kn1]
  rintro _ w1 ⟨nv, rfl, hnv, hb1⟩
  refine WL.v (Val.move rfl rfl) ?_ -- d8
  refine WL.v (Val.extract rfl rfl rfl) ?_ -- d10
  refine WL.v (Val.extract rfl rfl rfl) ?_ -- d11
  refine WL.v (Val.assign rfl rfl) ?_ -- d1
  refine WL.v (Val.assign rfl rfl) ?_ -- d2
  refine WL.nil ?_
  refine Ends.next ?_
  refine CW.seq ?_
  refine CW.region ?_
  refine WL.call bodied26 rfl rfl (parse26 _ _ (by decide)) ?_
  rw [kn2]
  rintro _ w2 ⟨nv2, rfl, -, hb2⟩
  have hnv2 := hnv.keep hb2
  refine WL.v (Val.move rfl rfl) ?_ -- d12
  refine WL.v (Val.extract rfl rfl rfl) ?_ -- d14
  refine WL.v (Val.extract rfl rfl rfl) ?_ -- d15
  refine WL.v (Val.assign rfl rfl) ?_ -- d3
  refine WL.v (Val.assign rfl rfl) ?_ -- d4
  refine WL.nil ?_
  refine Ends.next ?_
  refine CW.seq ?_
  refine CW.region ?_
  refine WL.buildB (l := [_, _, _, _]) [1, 97, 0, 9] rfl rfl (by decide) (by decide) (fun u w3 hu hb3 _ => ?_)
  have hnv3 := hnv2.keep hb3
  refine WL.call bodied28 rfl rfl (open28 _ _ _ hu (by decide)) ?_
  rw [kn3]
  rintro _ w4 ⟨m, rfl, hm, hb4⟩
  have hnv4 := hnv3.keep hb4
  obtain ⟨A, c, hv, -⟩ := id hm
  simp only [List.length_map] at hv
  subst hv
  refine WL.v (Val.move rfl rfl) ?_ -- d16
  refine WL.v (Val.extract rfl rfl rfl) ?_ -- d19
  refine WL.v (Val.extract rfl rfl rfl) ?_ -- d20
  refine WL.v (Val.extract rfl rfl rfl) ?_ -- d21
  refine WL.v (Val.assign rfl rfl) ?_ -- d5
  refine WL.v (Val.assign rfl rfl) ?_ -- d6
  refine WL.v (Val.assign rfl rfl) ?_ -- d7
  refine WL.nil ?_
  refine Ends.next ?_
  refine CW.seq ?_
  refine CW.region ?_
  refine WL.v (Val.move rfl rfl) ?_ -- d22
  refine WL.v (Val.eqlI rfl rfl rfl) ?_ -- d23
  refine WL.v (Val.move rfl rfl) ?_ -- d24
  refine WL.yes rfl rfl rfl (rfl) ?_
  refine WL.v (Val.move rfl rfl) ?_ -- d25
  refine WL.yes rfl rfl rfl (rfl) ?_
  refine WL.v (Val.eqlI rfl rfl rfl) ?_ -- d26
  refine WL.v (Val.pickT rfl rfl (rfl) rfl) ?_ -- d27
  refine WL.v (Val.move rfl rfl) ?_ -- d28
  refine WL.yes rfl rfl rfl (rfl) ?_
  refine WL.v (Val.move rfl rfl) ?_ -- d29
  refine WL.yes rfl rfl rfl (rfl) ?_
  refine WL.v (Val.eqlI rfl rfl rfl) ?_ -- d30
  refine WL.v (Val.pickT rfl rfl (rfl) rfl) ?_ -- d31
  refine WL.v (Val.move rfl rfl) ?_ -- d32
  refine WL.yes rfl rfl rfl (rfl) ?_
  refine WL.v (Val.move rfl rfl) ?_ -- d33
  refine WL.yes rfl rfl rfl (rfl) ?_
  refine WL.v (Val.eqlI rfl rfl rfl) ?_ -- d34
  refine WL.v (Val.pickT rfl rfl (rfl) rfl) ?_ -- d35
  refine WL.v (Val.move rfl rfl) ?_ -- d36
  refine WL.yes rfl rfl rfl (rfl) ?_
  refine WL.v (Val.move rfl rfl) ?_ -- d37
  refine WL.yes rfl rfl rfl (rfl) ?_
  refine WL.v (Val.lenSl rfl Try.underlying23 rfl) ?_ -- d38
  refine WL.yes rfl rfl rfl (rfl) ?_
  refine WL.v (Val.eqlI rfl rfl rfl) ?_ -- d39
  refine WL.v (Val.pickT rfl rfl (rfl) rfl) ?_ -- d40
  refine WL.v (Val.move rfl rfl) ?_ -- d41
  refine WL.yes rfl rfl rfl (decide_eq_true rfl) ?_
  refine WL.v (Val.move rfl rfl) ?_ -- d42
  refine WL.yes rfl rfl rfl (decide_eq_true rfl) ?_
  refine WL.call bodied32 rfl rfl (text32 _ _ _ hnv4 (by decide) (by decide)) ?_
  rw [kn4]
  rintro _ w5 ⟨rfl, hb5⟩
  have hnv5 := hnv4.keep hb5
  refine WL.yes rfl rfl rfl (decide_eq_true rfl) ?_
  refine WL.v (Val.eqlS rfl rfl rfl) ?_ -- d44
  refine WL.v (Val.pickT rfl rfl (decide_eq_true rfl) rfl) ?_ -- d45
  refine WL.v (Val.move rfl rfl) ?_ -- d46
  refine WL.yes rfl rfl rfl (rfl) ?_
  refine WL.one _ rfl rfl (fun u6 w6 hu6 hb6 => ?_)
  have hnv6 := hnv5.keep hb6
  refine WL.yes rfl rfl rfl (rfl) ?_
  refine WL.v (Val.move rfl rfl) ?_ -- d48
  refine WL.yes rfl rfl rfl (rfl) ?_
  refine WL.call bodied37 rfl rfl (cmp37 _ _ _ _ _ hu6 hnv6 (okOne _ (by decide)) okA) ?_
  rw [kn5]
  rintro _ w7 ⟨rfl, hb7⟩
  have hnv7 := hnv6.keep hb7
  refine WL.yes rfl rfl rfl (rfl) ?_
  refine WL.v (Val.eqlI rfl rfl rfl) ?_ -- d50
  refine WL.v (Val.pickT rfl rfl (rfl) rfl) ?_ -- d51
  refine WL.v (Val.move rfl rfl) ?_ -- d52
  refine WL.yes rfl rfl rfl (rfl) ?_
  refine WL.v (Val.move rfl rfl) ?_ -- d53
  refine WL.yes rfl rfl rfl (rfl) ?_
  refine WL.one _ rfl rfl (fun u8 w8 hu8 hb8 => ?_)
  have hnv8 := hnv7.keep hb8
  refine WL.yes rfl rfl rfl (rfl) ?_
  refine WL.call bodied35 rfl rfl (within35 _ _ _ _ _ hnv8 hu8 okA (okOne _ (by decide))) ?_
  rw [kn6]
  rintro _ w9 ⟨rfl, hb9⟩
  have hnv9 := hnv8.keep hb9
  refine WL.v (Val.pickT rfl rfl (rfl) rfl) ?_ -- d56
  refine WL.v (Val.move rfl rfl) ?_ -- d57
  refine WL.yes rfl rfl rfl (rfl) ?_
  refine WL.v (Val.move rfl rfl) ?_ -- d58
  refine WL.yes rfl rfl rfl (rfl) ?_
  refine WL.call bodied33 rfl rfl (wire33 _ _ _ hnv9 (by decide)) ?_
  rintro r10 w10 ⟨hr10, hb10⟩
  obtain ⟨A10, c10, hv10, -⟩ := id hr10.sl
  rw [List.length_map, kn7] at hv10
  subst hv10
  refine WL.yes rfl rfl rfl (rfl) ?_
  refine WL.v (Val.lenSl rfl Try.underlying25 rfl) ?_ -- d60
  refine WL.yes rfl rfl rfl (rfl) ?_
  refine WL.v (Val.eqlI rfl rfl rfl) ?_ -- d61
  refine WL.v (Val.pickT rfl rfl (rfl) rfl) ?_ -- d62
  refine WL.v (Val.move rfl rfl) ?_ -- d63
  refine WL.yes rfl rfl rfl (rfl) ?_
  refine WL.one _ rfl rfl (fun u11 w11 hu11 hb11 => ?_)
  refine WL.yes rfl rfl rfl (rfl) ?_
  refine WL.call bodied44 rfl rfl (wild44 _ _ _ hu11) ?_
  rw [kn8]
  rintro _ _ ⟨rfl, rfl⟩
  refine WL.v (Val.pickT rfl rfl (rfl) rfl) ?_ -- d66
  refine WL.v (Val.assign rfl rfl) ?_ -- d0
  refine WL.nil ?_
  refine Ends.next ?_
  refine CW.ret ?_
  have t2 := hb2.mono hb1.size
  have s2 := Nat.le_trans hb1.size hb2.size
  have t3 := hb3.mono s2
  have s3 := Nat.le_trans s2 hb3.size
  have t4 := hb4.mono s3
  have s4 := Nat.le_trans s3 hb4.size
  have t5 := hb5.mono s4
  have s5 := Nat.le_trans s4 hb5.size
  have t6 := hb6.mono s5
  have s6 := Nat.le_trans s5 hb6.size
  have t7 := hb7.mono s6
  have s7 := Nat.le_trans s6 hb7.size
  have t8 := hb8.mono s7
  have s8 := Nat.le_trans s7 hb8.size
  have t9 := hb9.mono s8
  have s9 := Nat.le_trans s8 hb9.size
  have t10 := hb10.mono s9
  have s10 := Nat.le_trans s9 hb10.size
  have t11 := hb11.mono s10
  exact Ends.ret1 rfl rfl ⟨rfl, ((((((((((hb1.trans t2).trans t3).trans t4).trans t5).trans t6).trans t7).trans t8).trans t9).trans t10).trans t11)⟩
end Go.Proofs.Ytjdgckamjgldmaa
