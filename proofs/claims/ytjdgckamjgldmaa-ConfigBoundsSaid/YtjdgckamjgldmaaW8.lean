/- Walks: the references' text; digits. -/
import Derived.Test.YtjdgckamjgldmaaBase
import Derived.Test.YtjdgckamjgldmaaW3
namespace Go.Proofs.Ytjdgckamjgldmaa
open Go.RowKit Go.Eng

-- signet/signetref3.Text
theorem text40 (v : Value) (l : List ByteArray) (w : World) (h : Nm w v l) (hl : l.length ≤ 1000000) (hs : sumS l ≤ 1000000000) :
    Runs Try.prog 40 #[v] w fun r w' => r = sv (mkS (textN l)) ∧ Below w.heap.size w w' := by
  obtain ⟨A, c, hv, -⟩ := id h
  rw [List.length_map] at hv
  subst hv
  refine enter (N := 71) (args := [_]) Try.func40 rfl rfl (Nat.le_of_ble_eq_true rfl) ?_
  refine CW.seq ?_
  refine CW.region ?_
  refine WL.v (Val.assign rfl rfl) ?_ -- d2
  refine WL.nil ?_
  refine Ends.next ?_
  refine CW.seq ?_
  refine CW.seq ?_
  refine CW.region ?_
  refine WL.v (Val.move rfl rfl) ?_ -- d7
  refine WL.v (Val.lenSl rfl Try.underlying23 rfl) ?_ -- d8
  refine WL.v (Val.eqlI rfl rfl rfl) ?_ -- d9
  refine WL.nil ?_
  refine Ends.next ?_
  refine CW.condD rfl (fun hc0 => ?_) (fun hc0 => ?_)
  · -- yes
    have hl0 : l = [] := List.eq_nil_of_length_eq_zero (by omega)
    refine CW.seq ?_
    refine CW.region ?_
    refine WL.v (Val.assign rfl rfl) ?_ -- d2
    refine WL.nil ?_
    refine Ends.next ?_
    refine CW.ret ?_
    refine Ends.seqr ?_
    exact Ends.ret1 rfl rfl ⟨by rw [textN, if_pos hl0]; rfl, Below.refl _ _⟩
  · -- no
    refine CW.skip ?_
    refine Ends.next ?_
    refine CW.seq ?_
    refine CW.region ?_
    refine WL.v (Val.assign rfl rfl) ?_ -- d3
    refine WL.nil ?_
    refine Ends.next ?_
    refine CW.seq ?_
    refine CW.seq ?_
    refine CW.region ?_
    refine WL.v (Val.assign rfl rfl) ?_ -- d4
    refine WL.nil ?_
    refine Ends.next ?_
    refine CW.block ?_
    refine CW.loop (α := Nat × Value) (fun (k, b) => [(0, .slice A l.length c), (3, b), (4, .int .i64 k)]) (fun (k, b) w1 => k ≤ l.length ∧ OwnB w1 w.heap.size b (textT (l.take k)) ∧ Below w.heap.size w w1) (fun (k, b) => l.length - k) (0, .slice none 0 0) ⟨rfl, rfl, rfl, trivial⟩ ⟨Nat.zero_le _, by simpa [textT] using OwnB.nil _ _, Below.refl _ _⟩ ?_
    rintro ⟨k, b⟩ w1 ⟨hk, hown, hb⟩
    refine CW.seq ?_
    refine CW.seq ?_
    refine CW.region ?_
    refine WL.v (Val.move rfl rfl) ?_ -- d10
    refine WL.v (Val.move rfl rfl) ?_ -- d11
    refine WL.v (Val.lenSl rfl Try.underlying23 rfl) ?_ -- d12
    refine WL.v (Val.lss rfl rfl rfl) ?_ -- d13
    refine WL.nil ?_
    refine Ends.next ?_
    refine CW.condD rfl (fun hc1 => ?_) (fun hc1 => ?_)
    · -- yes
      have hlt : k < l.length := by omega
      have hsz := hb.size
      have htk := textT_take l k hlt
      have hbd1 := textT_le (l.take k)
      have hbd2 := sumS_le l k
      have hbd3 : (l.take k).length ≤ l.length := by simp; omega
      have hbd4 := sumS_take l k hlt
      have hbd5 := sumS_le l (k + 1)
      refine CW.skip ?_
      refine Ends.next ?_
      refine CW.seq ?_
      refine CW.block ?_
      refine CW.seq ?_
      refine CW.seq ?_
      refine CW.region ?_
      refine WL.v (Val.assign rfl rfl) ?_ -- d5
      refine WL.nil ?_
      refine Ends.next ?_
      refine CW.block ?_
      refine CW.loop (α := Nat × Value) (fun (j, b1) => [(0, .slice A l.length c), (3, b1), (4, .int .i64 k), (5, .int .i64 j)]) (fun (j, b1) w3 => j ≤ l[k].size ∧ OwnB w3 w.heap.size b1 (textT (l.take k) ++ escL ((bytes l[k]).take j)) ∧ Below w.heap.size w w3) (fun (j, b1) => l[k].size - j) (0, b) ⟨rfl, rfl, rfl, rfl, trivial⟩ ⟨Nat.zero_le _, by simpa [escL] using hown, hb⟩ ?_
      rintro ⟨j, b1⟩ w3 ⟨hj, hown3, hb3⟩
      refine CW.seq ?_
      refine CW.seq ?_
      refine CW.region ?_
      refine WL.v (Val.move rfl rfl) ?_ -- d16
      refine WL.v (Val.move rfl rfl) ?_ -- d17
      refine WL.v (Val.move rfl rfl) ?_ -- d18
      refine WL.elem ty23 (h.keep hb3) rfl rfl rfl rfl (by omega) (v := sv l[k]) (by simp [hlt]) (fun _ => ?_)
      refine WL.v (Val.lenStr rfl Try.underlying9 rfl) ?_ -- d21
      refine WL.v (Val.lss rfl rfl rfl) ?_ -- d22
      refine WL.nil ?_
      refine Ends.next ?_
      refine CW.condD rfl (fun hc2 => ?_) (fun hc2 => ?_)
      · -- yes
        have hlt2 : j < (bytes l[k]).length := by rw [bytes_length]; omega
        have hek := escL_take (bytes l[k]) j hlt2
        have hbd6 := escL_le ((bytes l[k]).take j)
        have hbd7 : ((bytes l[k]).take j).length ≤ l[k].size := by rw [List.length_take, bytes_length]; omega
        have hbt := (bytes l[k])[j].toNat_lt
        have hsz3 := hb3.size
        refine CW.skip ?_
        refine Ends.next ?_
        refine CW.seq ?_
        refine CW.block ?_
        refine CW.seq ?_
        refine CW.region ?_
        refine WL.v (Val.move rfl rfl) ?_ -- d25
        refine WL.v (Val.move rfl rfl) ?_ -- d26
        refine WL.elem ty23 (h.keep hb3) rfl rfl rfl rfl (by omega) (v := sv l[k]) (by simp [hlt]) (fun _ => ?_)
        refine WL.v (Val.move rfl rfl) ?_ -- d29
        refine WL.v (Val.idxStr (b := (bytes l[k])[j]) rfl Try.underlying9 rfl rfl (by omega) (List.getElem?_eq_getElem hlt2)) ?_
        refine WL.v (Val.assign rfl rfl) ?_ -- d6
        refine WL.nil ?_
        refine Ends.next ?_
        refine CW.block ?_
        refine CW.seq ?_
        refine CW.region ?_
        refine WL.v (Val.move rfl rfl) ?_ -- d36
        refine WL.v (Val.eqlI rfl rfl rfl) ?_ -- d37
        refine WL.v (Val.move rfl rfl) ?_ -- d38
        refine WL.or (j := 2) (seg := [_, _]) (r := ?r1) rfl rfl rfl rfl (fun hb41 HK41 => ?hT1) ?_
        case hT1 =>
          refine WL.yes rfl rfl rfl hb41 ?_
          refine WL.v (Val.move rfl rfl) ?_ -- d39
          refine WL.yes rfl rfl rfl hb41 ?_
          refine WL.v (Val.eqlI rfl rfl rfl) ?_ -- d40
          refine WL.v (Val.pickF rfl rfl hb41 rfl) ?_
          refine WL.forget rfl ?_; refine WL.forget rfl ?_
          exact HK41
        refine WL.v (Val.assign rfl rfl) ?_ -- d35
        refine WL.nil ?_
        refine Ends.next ?_
        refine CW.cond rfl (fun hc3 => ?_) (fun hc3 => ?_)
        · -- yes
          have hes := esc_dot (c := (bytes l[k])[j]) (by simpa using hc3)
          refine CW.region ?_
          refine WL.v (Val.move rfl rfl) ?_ -- d42
          refine WL.v (Val.move rfl rfl) ?_ -- d43
          refine WL.buildB (l := [_, _]) [92, (bytes l[k])[j]] rfl rfl (by decide) (by decide) (fun u w4 hu hbu hgu => ?_)
          have hown4 := hown3.keep hbu
          have hszu := hbu.size
          refine WL.apL hown4 hu rfl rfl rfl (by simp; omega) (by omega) (fun b5 w5 hown5 hg5 hat5 => ?_)
          have hb5 := hown4.below hg5 (by omega)
          refine WL.v (Val.assign rfl rfl) ?_ -- d3
          refine WL.nil ?_
          refine Ends.blkn ?_
          refine Ends.blkn ?_
          refine Ends.next ?_
          refine CW.region ?_
          refine WL.v (Val.move rfl rfl) ?_ -- d23
          refine WL.v (Val.add rfl rfl rfl _ (IntWalk.i64_in _ (by omega))) ?_ -- d24
          refine WL.v (Val.assign rfl rfl) ?_ -- d5
          refine WL.nil ?_
          refine Ends.round (j + 1, b5) (by simp only; omega) ⟨rfl, rfl, rfl, rfl, trivial⟩ ⟨by omega, by rw [hek, hes, ← List.append_assoc]; exact hown5, (hb3.trans (hbu.mono (by omega))).trans hb5⟩
        · -- no
          have hnd : ¬ (((bytes l[k])[j].toNat : Int) = 46 ∨ ((bytes l[k])[j].toNat : Int) = 92) := by simpa using hc3
          refine CW.seq ?_
          refine CW.region ?_
          refine WL.v (Val.move rfl rfl) ?_ -- d47
          refine WL.v (Val.lss rfl rfl rfl) ?_ -- d48
          refine WL.v (Val.move rfl rfl) ?_ -- d49
          refine WL.or (j := 2) (seg := [_, _]) (r := ?r2) rfl rfl rfl rfl (fun hb52 HK52 => ?hT2) ?_
          case hT2 =>
            refine WL.yes rfl rfl rfl hb52 ?_
            refine WL.v (Val.move rfl rfl) ?_ -- d50
            refine WL.yes rfl rfl rfl hb52 ?_
            refine WL.v (Val.gtr rfl rfl rfl) ?_ -- d51
            refine WL.v (Val.pickF rfl rfl hb52 rfl) ?_
            refine WL.forget rfl ?_; refine WL.forget rfl ?_
            exact HK52
          refine WL.v (Val.assign rfl rfl) ?_ -- d46
          refine WL.nil ?_
          refine Ends.next ?_
          refine CW.cond rfl (fun hc4 => ?_) (fun hc4 => ?_)
          · -- yes
            have hes := esc_code hnd (by simpa using hc4)
            refine CW.region ?_
            refine WL.v (Val.move rfl rfl) ?_ -- d53
            refine WL.v (Val.move rfl rfl) ?_ -- d54
            refine WL.v (Val.quo rfl rfl rfl (by decide) _ (IntWalk.u8_quo _ _ (by omega))) ?_
            refine WL.v (Val.add rfl rfl rfl _ (IntWalk.u8_in _ (by omega))) ?_
            refine WL.know 56 (bv (48 + (bytes l[k])[j] / 100)) rfl (congrArg (Value.int .u8) (dg1 _)) ?_
            refine WL.v (Val.move rfl rfl) ?_ -- d57
            refine WL.v (Val.quo rfl rfl rfl (by decide) _ (IntWalk.u8_quo _ _ (by omega))) ?_
            refine WL.v (Val.rem rfl rfl rfl (by decide) _ (IntWalk.rem_in _ _ (by omega))) ?_
            refine WL.v (Val.add rfl rfl rfl _ (IntWalk.u8_in _ (by omega))) ?_
            refine WL.know 60 (bv (48 + (bytes l[k])[j] / 10 % 10)) rfl (congrArg (Value.int .u8) (dg2 _)) ?_
            refine WL.v (Val.move rfl rfl) ?_ -- d61
            refine WL.v (Val.rem rfl rfl rfl (by decide) _ (IntWalk.rem_in _ _ (by omega))) ?_
            refine WL.v (Val.add rfl rfl rfl _ (IntWalk.u8_in _ (by omega))) ?_
            refine WL.know 63 (bv (48 + (bytes l[k])[j] % 10)) rfl (congrArg (Value.int .u8) (dg3 _)) ?_
            refine WL.buildB (l := [_, _, _, _]) [92, 48 + (bytes l[k])[j] / 100, 48 + (bytes l[k])[j] / 10 % 10, 48 + (bytes l[k])[j] % 10] rfl rfl (by decide) (by decide) (fun u w4 hu hbu hgu => ?_)
            have hown4 := hown3.keep hbu
            have hszu := hbu.size
            refine WL.apL hown4 hu rfl rfl rfl (by simp; omega) (by omega) (fun b5 w5 hown5 hg5 hat5 => ?_)
            have hb5 := hown4.below hg5 (by omega)
            refine WL.v (Val.assign rfl rfl) ?_ -- d3
            refine WL.nil ?_
            refine Ends.blkn ?_
            refine Ends.blkn ?_
            refine Ends.next ?_
            refine CW.region ?_
            refine WL.v (Val.move rfl rfl) ?_ -- d23
            refine WL.v (Val.add rfl rfl rfl _ (IntWalk.i64_in _ (by omega))) ?_ -- d24
            refine WL.v (Val.assign rfl rfl) ?_ -- d5
            refine WL.nil ?_
            refine Ends.round (j + 1, b5) (by simp only; omega) ⟨rfl, rfl, rfl, rfl, trivial⟩ ⟨by omega, by rw [hek, hes, ← List.append_assoc]; exact hown5, (hb3.trans (hbu.mono (by omega))).trans hb5⟩
          · -- no
            have hes := esc_plain hnd (by simpa using hc4)
            refine CW.region ?_
            refine WL.v (Val.move rfl rfl) ?_ -- d31
            refine WL.v (Val.move rfl rfl) ?_ -- d32
            refine WL.buildB (l := [_]) [(bytes l[k])[j]] rfl rfl (by decide) (by decide) (fun u w4 hu hbu hgu => ?_)
            have hown4 := hown3.keep hbu
            have hszu := hbu.size
            refine WL.apL hown4 hu rfl rfl rfl (by simp; omega) (by omega) (fun b5 w5 hown5 hg5 hat5 => ?_)
            have hb5 := hown4.below hg5 (by omega)
            refine WL.v (Val.assign rfl rfl) ?_ -- d3
            refine WL.nil ?_
            refine Ends.blkn ?_
            refine Ends.blkn ?_
            refine Ends.next ?_
            refine CW.region ?_
            refine WL.v (Val.move rfl rfl) ?_ -- d23
            refine WL.v (Val.add rfl rfl rfl _ (IntWalk.i64_in _ (by omega))) ?_ -- d24
            refine WL.v (Val.assign rfl rfl) ?_ -- d5
            refine WL.nil ?_
            refine Ends.round (j + 1, b5) (by simp only; omega) ⟨rfl, rfl, rfl, rfl, trivial⟩ ⟨by omega, by rw [hek, hes, ← List.append_assoc]; exact hown5, (hb3.trans (hbu.mono (by omega))).trans hb5⟩
      · -- no
        have hjl : j = (bytes l[k]).length := by rw [bytes_length]; omega
        rw [hjl, List.take_length] at hown3
        have hsz3 := hb3.size
        have hbd8 := escL_le (bytes l[k])
        rw [bytes_length] at hbd8
        refine CW.exit ?_
        refine Ends.seqx ?_
        refine Ends.seqx ?_
        refine Ends.blke ?_
        refine Ends.next ?_
        refine CW.region ?_
        refine WL.v (Val.move rfl rfl) ?_ -- d66
        refine WL.buildB (l := [_]) [46] rfl rfl (by decide) (by decide) (fun u w4 hu hbu hgu => ?_)
        have hown4 := hown3.keep hbu
        have hszu := hbu.size
        refine WL.apL hown4 hu rfl rfl rfl (by simp; omega) (by omega) (fun b5 w5 hown5 hg5 hat5 => ?_)
        have hb5 := hown4.below hg5 (by omega)
        refine WL.v (Val.assign rfl rfl) ?_ -- d3
        refine WL.nil ?_
        refine Ends.blkn ?_
        refine Ends.next ?_
        refine CW.region ?_
        refine WL.v (Val.move rfl rfl) ?_ -- d14
        refine WL.v (Val.add rfl rfl rfl _ (IntWalk.i64_in _ (by omega))) ?_ -- d15
        refine WL.v (Val.assign rfl rfl) ?_ -- d4
        refine WL.nil ?_
        exact Ends.round (k + 1, b5) (by simp only; omega) ⟨rfl, rfl, rfl, trivial⟩ ⟨hlt, by rw [htk]; exact hown5, (hb3.trans (hbu.mono (by omega))).trans hb5⟩
    · -- no
      have hkl : k = l.length := by omega
      subst hkl
      rw [List.take_length] at hown
      refine CW.exit ?_
      refine Ends.seqx ?_
      refine Ends.seqx ?_
      refine Ends.blke ?_
      refine Ends.next ?_
      refine CW.seq ?_
      refine CW.region ?_
      refine WL.v (Val.move rfl rfl) ?_ -- d69
      refine WL.v (Val.toStr Try.underlying25 Try.underlying9 Try.underlying5 rfl rfl (at_ hown.sl)) ?_
      refine WL.v (Val.assign rfl rfl) ?_ -- d2
      refine WL.nil ?_
      refine Ends.next ?_
      refine CW.ret ?_
      exact Ends.ret1 rfl rfl ⟨by rw [textN, if_neg (by rintro rfl; simp at hc0)]; rfl, hb⟩
end Go.Proofs.Ytjdgckamjgldmaa
