/- Walks: within; the text. -/
import Derived.Test.YtjdgckamjgldmaaBase
import Derived.Test.YtjdgckamjgldmaaW3
import Derived.Test.YtjdgckamjgldmaaW5
import Derived.Test.YtjdgckamjgldmaaW6
namespace Go.Proofs.Ytjdgckamjgldmaa
open Go.RowKit Go.Eng

-- signet/name.Within
theorem within35y (v u : Value) (l m : List ByteArray) (w : World) (h : Nm w v l) (h' : Nm w u m) (ol : OkN l) (om : OkN m) (hle : m.length ≤ l.length) :
    Runs Try.prog 35 #[v, u] w fun r w' => r = .bool (withinN l m) ∧ Below w.heap.size w w' := by
  have hl := ol.1
  have hm := om.1
  obtain ⟨A, c, hv, -⟩ := id h
  rw [List.length_map] at hv
  subst hv
  obtain ⟨A', c', hv, -⟩ := id h'
  rw [List.length_map] at hv
  subst hv
  have hd : decide ((m.length : Int) ≤ (l.length : Int)) = true := by simp; omega
  refine enter (N := 21) (args := [_, _]) Try.func35 rfl rfl (Nat.le_of_ble_eq_true rfl) ?_
  refine CW.seq ?_
  refine CW.region ?_
  refine WL.v (Val.assign rfl rfl) ?_ -- d4
  refine WL.nil ?_
  refine Ends.next ?_
  refine CW.seq ?_
  refine CW.region ?_
  refine WL.v (Val.move rfl rfl) ?_ -- d5
  refine WL.v (Val.lenSl rfl Try.underlying23 rfl) ?_ -- d6
  refine WL.v (Val.move rfl rfl) ?_ -- d7
  refine WL.v (Val.lenSl rfl Try.underlying23 rfl) ?_ -- d8
  refine WL.v (Val.geq rfl rfl rfl) ?_ -- d9
  refine WL.v (Val.move rfl rfl) ?_ -- d10
  refine WL.yes rfl rfl rfl (hd) ?_
  refine WL.v (Val.move rfl rfl) ?_ -- d11
  refine WL.yes rfl rfl rfl (hd) ?_
  refine WL.v (Val.move rfl rfl) ?_ -- d12
  refine WL.yes rfl rfl rfl (hd) ?_
  refine WL.v (Val.lenSl rfl Try.underlying23 rfl) ?_ -- d13
  refine WL.yes rfl rfl rfl (hd) ?_
  refine WL.v (Val.move rfl rfl) ?_ -- d14
  refine WL.yes rfl rfl rfl (hd) ?_
  refine WL.v (Val.lenSl rfl Try.underlying23 rfl) ?_ -- d15
  refine WL.yes rfl rfl rfl (hd) ?_
  refine WL.v (Val.subt rfl rfl rfl ((l.length - m.length : Nat) : Int) (i64_eq (by omega) (by omega))) ?_
  refine WL.yes rfl rfl rfl (hd) ?_
  refine WL.v (Val.subSl (l.length - m.length) l.length rfl ty23 rfl rfl rfl (by omega) (by omega) h.cap) ?_
  refine WL.yes rfl rfl rfl (hd) ?_
  refine WL.v (Val.move rfl rfl) ?_ -- d18
  refine WL.yes rfl rfl rfl (hd) ?_
  refine WL.call bodied47 rfl rfl (same47 _ _ (l.drop (l.length - m.length)) m _ (h.drop (by omega)) h' (okN_drop ol _) om) ?_
  rintro _ w2 ⟨rfl, hb2⟩
  refine WL.v (Val.pickT rfl rfl (hd) rfl) ?_ -- d20
  refine WL.v (Val.assign rfl rfl) ?_ -- d4
  refine WL.nil ?_
  refine Ends.next ?_
  refine CW.ret ?_
  exact Ends.ret1 rfl rfl ⟨by rw [withinN, decide_eq_true hle, Bool.true_and], hb2⟩
-- signet/name.Within
theorem within35n (v u : Value) (l m : List ByteArray) (w : World) (h : Nm w v l) (h' : Nm w u m) (ol : OkN l) (om : OkN m) (hle : ¬ m.length ≤ l.length) :
    Runs Try.prog 35 #[v, u] w fun r w' => r = .bool (withinN l m) ∧ Below w.heap.size w w' := by
  have hl := ol.1
  have hm := om.1
  obtain ⟨A, c, hv, -⟩ := id h
  rw [List.length_map] at hv
  subst hv
  obtain ⟨A', c', hv, -⟩ := id h'
  rw [List.length_map] at hv
  subst hv
  have hd : decide ((m.length : Int) ≤ (l.length : Int)) = false := by simp; omega
  refine enter (N := 21) (args := [_, _]) Try.func35 rfl rfl (Nat.le_of_ble_eq_true rfl) ?_
  refine CW.seq ?_
  refine CW.region ?_
  refine WL.v (Val.assign rfl rfl) ?_ -- d4
  refine WL.nil ?_
  refine Ends.next ?_
  refine CW.seq ?_
  refine CW.region ?_
  refine WL.v (Val.move rfl rfl) ?_ -- d5
  refine WL.v (Val.lenSl rfl Try.underlying23 rfl) ?_ -- d6
  refine WL.v (Val.move rfl rfl) ?_ -- d7
  refine WL.v (Val.lenSl rfl Try.underlying23 rfl) ?_ -- d8
  refine WL.v (Val.geq rfl rfl rfl) ?_ -- d9
  refine WL.v (Val.move rfl rfl) ?_ -- d10
  refine WL.noB rfl rfl rfl (hd) ?_ -- d11
  refine WL.noB rfl rfl rfl (hd) ?_ -- d12
  refine WL.noB rfl rfl rfl (hd) ?_ -- d13
  refine WL.noB rfl rfl rfl (hd) ?_ -- d14
  refine WL.noB rfl rfl rfl (hd) ?_ -- d15
  refine WL.noB rfl rfl rfl (hd) ?_ -- d16
  refine WL.noB rfl rfl rfl (hd) ?_ -- d17
  refine WL.noB rfl rfl rfl (hd) ?_ -- d18
  refine WL.noB rfl rfl rfl (hd) ?_ -- d19
  refine WL.v (Val.pickF rfl rfl (hd) rfl) ?_ -- d20
  refine WL.v (Val.assign rfl rfl) ?_ -- d4
  refine WL.nil ?_
  refine Ends.next ?_
  refine CW.ret ?_
  exact Ends.ret1 rfl rfl ⟨by rw [withinN, decide_eq_false hle, Bool.false_and], Below.refl _ _⟩
-- hook not used: d16
-- hook not used: d17
-- hook not used: d19
theorem within35 (v u : Value) (l m : List ByteArray) (w : World) (h : Nm w v l) (h' : Nm w u m) (ol : OkN l) (om : OkN m) :
    Runs Try.prog 35 #[v, u] w fun r w' => r = .bool (withinN l m) ∧ Below w.heap.size w w' := by
  by_cases hle : m.length ≤ l.length
  · exact within35y v u l m w h h' ol om hle
  · exact within35n v u l m w h h' ol om hle
-- signet/signetref3.Within
theorem within36y (v u : Value) (l m : List ByteArray) (w : World) (h : Nm w v l) (h' : Nm w u m) (ol : OkN l) (om : OkN m) (hle : m.length ≤ l.length) :
    Runs Try.prog 36 #[v, u] w fun r w' => r = .bool (withinN l m) ∧ Below w.heap.size w w' := by
  have hl := ol.1
  have hm := om.1
  obtain ⟨A, c, hv, -⟩ := id h
  rw [List.length_map] at hv
  subst hv
  obtain ⟨A', c', hv, -⟩ := id h'
  rw [List.length_map] at hv
  subst hv
  have hd : decide ((m.length : Int) ≤ (l.length : Int)) = true := by simp; omega
  refine enter (N := 21) (args := [_, _]) Try.func36 rfl rfl (Nat.le_of_ble_eq_true rfl) ?_
  refine CW.seq ?_
  refine CW.region ?_
  refine WL.v (Val.assign rfl rfl) ?_ -- d4
  refine WL.nil ?_
  refine Ends.next ?_
  refine CW.seq ?_
  refine CW.region ?_
  refine WL.v (Val.move rfl rfl) ?_ -- d5
  refine WL.v (Val.lenSl rfl Try.underlying23 rfl) ?_ -- d6
  refine WL.v (Val.move rfl rfl) ?_ -- d7
  refine WL.v (Val.lenSl rfl Try.underlying23 rfl) ?_ -- d8
  refine WL.v (Val.geq rfl rfl rfl) ?_ -- d9
  refine WL.v (Val.move rfl rfl) ?_ -- d10
  refine WL.yes rfl rfl rfl (hd) ?_
  refine WL.v (Val.move rfl rfl) ?_ -- d11
  refine WL.yes rfl rfl rfl (hd) ?_
  refine WL.v (Val.move rfl rfl) ?_ -- d12
  refine WL.yes rfl rfl rfl (hd) ?_
  refine WL.v (Val.lenSl rfl Try.underlying23 rfl) ?_ -- d13
  refine WL.yes rfl rfl rfl (hd) ?_
  refine WL.v (Val.move rfl rfl) ?_ -- d14
  refine WL.yes rfl rfl rfl (hd) ?_
  refine WL.v (Val.lenSl rfl Try.underlying23 rfl) ?_ -- d15
  refine WL.yes rfl rfl rfl (hd) ?_
  refine WL.v (Val.subt rfl rfl rfl ((l.length - m.length : Nat) : Int) (i64_eq (by omega) (by omega))) ?_
  refine WL.yes rfl rfl rfl (hd) ?_
  refine WL.v (Val.subSl (l.length - m.length) l.length rfl ty23 rfl rfl rfl (by omega) (by omega) h.cap) ?_
  refine WL.yes rfl rfl rfl (hd) ?_
  refine WL.v (Val.move rfl rfl) ?_ -- d18
  refine WL.yes rfl rfl rfl (hd) ?_
  refine WL.call bodied48 rfl rfl (same48 _ _ (l.drop (l.length - m.length)) m _ (h.drop (by omega)) h' (okN_drop ol _) om) ?_
  rintro _ w2 ⟨rfl, hb2⟩
  refine WL.v (Val.pickT rfl rfl (hd) rfl) ?_ -- d20
  refine WL.v (Val.assign rfl rfl) ?_ -- d4
  refine WL.nil ?_
  refine Ends.next ?_
  refine CW.ret ?_
  exact Ends.ret1 rfl rfl ⟨by rw [withinN, decide_eq_true hle, Bool.true_and, sameN_eq], hb2⟩
-- signet/signetref3.Within
theorem within36n (v u : Value) (l m : List ByteArray) (w : World) (h : Nm w v l) (h' : Nm w u m) (ol : OkN l) (om : OkN m) (hle : ¬ m.length ≤ l.length) :
    Runs Try.prog 36 #[v, u] w fun r w' => r = .bool (withinN l m) ∧ Below w.heap.size w w' := by
  have hl := ol.1
  have hm := om.1
  obtain ⟨A, c, hv, -⟩ := id h
  rw [List.length_map] at hv
  subst hv
  obtain ⟨A', c', hv, -⟩ := id h'
  rw [List.length_map] at hv
  subst hv
  have hd : decide ((m.length : Int) ≤ (l.length : Int)) = false := by simp; omega
  refine enter (N := 21) (args := [_, _]) Try.func36 rfl rfl (Nat.le_of_ble_eq_true rfl) ?_
  refine CW.seq ?_
  refine CW.region ?_
  refine WL.v (Val.assign rfl rfl) ?_ -- d4
  refine WL.nil ?_
  refine Ends.next ?_
  refine CW.seq ?_
  refine CW.region ?_
  refine WL.v (Val.move rfl rfl) ?_ -- d5
  refine WL.v (Val.lenSl rfl Try.underlying23 rfl) ?_ -- d6
  refine WL.v (Val.move rfl rfl) ?_ -- d7
  refine WL.v (Val.lenSl rfl Try.underlying23 rfl) ?_ -- d8
  refine WL.v (Val.geq rfl rfl rfl) ?_ -- d9
  refine WL.v (Val.move rfl rfl) ?_ -- d10
  refine WL.noB rfl rfl rfl (hd) ?_ -- d11
  refine WL.noB rfl rfl rfl (hd) ?_ -- d12
  refine WL.noB rfl rfl rfl (hd) ?_ -- d13
  refine WL.noB rfl rfl rfl (hd) ?_ -- d14
  refine WL.noB rfl rfl rfl (hd) ?_ -- d15
  refine WL.noB rfl rfl rfl (hd) ?_ -- d16
  refine WL.noB rfl rfl rfl (hd) ?_ -- d17
  refine WL.noB rfl rfl rfl (hd) ?_ -- d18
  refine WL.noB rfl rfl rfl (hd) ?_ -- d19
  refine WL.v (Val.pickF rfl rfl (hd) rfl) ?_ -- d20
  refine WL.v (Val.assign rfl rfl) ?_ -- d4
  refine WL.nil ?_
  refine Ends.next ?_
  refine CW.ret ?_
  exact Ends.ret1 rfl rfl ⟨by rw [withinN, decide_eq_false hle, Bool.false_and], Below.refl _ _⟩
-- hook not used: d16
-- hook not used: d17
-- hook not used: d19
theorem within36 (v u : Value) (l m : List ByteArray) (w : World) (h : Nm w v l) (h' : Nm w u m) (ol : OkN l) (om : OkN m) :
    Runs Try.prog 36 #[v, u] w fun r w' => r = .bool (withinN l m) ∧ Below w.heap.size w w' := by
  by_cases hle : m.length ≤ l.length
  · exact within36y v u l m w h h' ol om hle
  · exact within36n v u l m w h h' ol om hle
-- signet/name.Text
theorem text32 (v : Value) (l : List ByteArray) (w : World) (h : Nm w v l) (hl : l.length ≤ 1000000) (hs : sumS l ≤ 1000000000) :
    Runs Try.prog 32 #[v] w fun r w' => r = sv (mkS (textN l)) ∧ Below w.heap.size w w' := by
  obtain ⟨A, c, hv, -⟩ := id h
  rw [List.length_map] at hv
  subst hv
  refine enter (N := 66) (args := [_]) Try.func32 rfl rfl (Nat.le_of_ble_eq_true rfl) ?_
  refine CW.seq ?_
  refine CW.region ?_
  refine WL.v (Val.assign rfl rfl) ?_ -- d2
  refine WL.nil ?_
  refine Ends.next ?_
  refine CW.seq ?_
  refine CW.seq ?_
  refine CW.region ?_
  refine WL.v (Val.move rfl rfl) ?_ -- d8
  refine WL.v (Val.lenSl rfl Try.underlying23 rfl) ?_ -- d9
  refine WL.v (Val.eqlI rfl rfl rfl) ?_ -- d10
  refine WL.nil ?_
  refine Ends.next ?_
  refine CW.condD rfl (fun hc0 => ?_) (fun hc0 => ?_)
  · -- yes
    have hl0 : l = [] := List.eq_nil_of_length_eq_zero (by omega)
    refine CW.seq ?_
    refine CW.region ?_
    refine WL.v (Val.assign rfl rfl) ?_ -- d2
    refine WL.nil ?_
    refine Ends.next ?_
    refine CW.ret ?_
    refine Ends.seqr ?_
    exact Ends.ret1 rfl rfl ⟨by rw [textN, if_pos hl0]; rfl, Below.refl _ _⟩
  · -- no
    refine CW.skip ?_
    refine Ends.next ?_
    refine CW.seq ?_
    refine CW.region ?_
    refine WL.v (Val.assign rfl rfl) ?_ -- d3
    refine WL.nil ?_
    refine Ends.next ?_
    refine CW.seq ?_
    refine CW.seq ?_
    refine CW.region ?_
    refine WL.v (Val.move rfl rfl) ?_ -- d11
    refine WL.v (Val.lenSl rfl Try.underlying23 rfl) ?_ -- d12
    refine WL.v (Val.move rfl rfl) ?_ -- d13
    refine WL.nil ?_
    refine Ends.next ?_
    refine CW.block ?_
    refine CW.loop (α := Nat × Value) (fun (k, b) => [(3, b), (11, .slice A l.length c), (12, .int .i64 l.length), (13, .int .i64 k)]) (fun (k, b) w1 => k ≤ l.length ∧ OwnB w1 w.heap.size b (textT (l.take k)) ∧ Below w.heap.size w w1) (fun (k, b) => l.length - k) (0, .slice none 0 0) ⟨rfl, rfl, rfl, rfl, trivial⟩ ⟨Nat.zero_le _, by simpa [textT] using OwnB.nil _ _, Below.refl _ _⟩ ?_
    rintro ⟨k, b⟩ w1 ⟨hk, hown, hb⟩
    refine CW.seq ?_
    refine CW.region ?_
    refine WL.v (Val.lss rfl rfl rfl) ?_ -- d14
    refine WL.nil ?_
    refine Ends.next ?_
    refine CW.seq ?_
    refine CW.condD rfl (fun hc1 => ?_) (fun hc1 => ?_)
    · -- yes
      have hlt : k < l.length := by omega
      have hsz := hb.size
      have htk := textT_take l k hlt
      have hbd1 := textT_le (l.take k)
      have hbd2 := sumS_le l k
      have hbd3 : (l.take k).length ≤ l.length := by simp; omega
      have hbd4 := sumS_take l k hlt
      have hbd5 := sumS_le l (k + 1)
      refine CW.skip ?_
      refine Ends.next ?_
      refine CW.seq ?_
      refine CW.block ?_
      refine CW.seq ?_
      refine CW.region ?_
      refine WL.elem ty23 (h.keep hb) rfl rfl rfl rfl (by omega) (v := sv l[k]) (by simp [hlt]) (fun _ => ?_)
      refine WL.v (Val.assign rfl rfl) ?_ -- d5
      refine WL.nil ?_
      refine Ends.next ?_
      refine CW.seq ?_
      refine CW.seq ?_
      refine CW.region ?_
      refine WL.v (Val.move rfl rfl) ?_ -- d17
      refine WL.toBytes Try.underlying9 Try.underlying25 Try.underlying5 rfl rfl (fun q w2 hq hb2 => ?_)
      have hown2 : OwnB w2 w.heap.size b (textT (l.take k)) := hown.keep hb2
      have hap : q.ownBlock ≠ b.ownBlock := by
        obtain ⟨g, h1, h2, _⟩ := OwnF_lt hq
        rw [h1]
        intro he
        have := (hown.lt g he.symm).2
        omega
      obtain ⟨A2, c2, hv2, -⟩ := id hq.sl
      have hlen2 : (List.map byteV l[k].data.toList).length = l[k].size := by rw [List.length_map]; rfl
      rw [hlen2] at hv2
      have hsz2 := hb2.size
      refine WL.know 18 (.slice A2 l[k].size c2) rfl hv2 ?_
      refine WL.v (Val.lenSl rfl Try.underlying25 rfl) ?_
      refine WL.v (Val.move rfl rfl) ?_ -- d20
      refine WL.nil ?_
      refine Ends.next ?_
      refine CW.block ?_
      refine CW.loop (α := Nat × Value) (fun (j, b1) => [(3, b1), (11, .slice A l.length c), (12, .int .i64 l.length), (13, .int .i64 k), (18, .slice A2 l[k].size c2), (19, .int .i64 l[k].size), (20, .int .i64 j)]) (fun (j, b1) w3 => j ≤ l[k].size ∧ OwnB w3 w.heap.size b1 (textT (l.take k) ++ escL ((bytes l[k]).take j)) ∧ OwnF w3 w1.heap.size 5 q ((bytes l[k]).map bv) ∧ q.ownBlock ≠ b1.ownBlock ∧ Below w.heap.size w w3) (fun (j, b1) => l[k].size - j) (0, b) ⟨rfl, rfl, rfl, rfl, rfl, rfl, rfl, trivial⟩ ⟨Nat.zero_le _, by simpa [escL] using hown2, hq, hap, hb.trans (hb2.mono hsz)⟩ ?_
      rintro ⟨j, b1⟩ w3 ⟨hj, hown3, hq3, hap3, hb3⟩
      refine CW.seq ?_
      refine CW.region ?_
      refine WL.v (Val.lss rfl rfl rfl) ?_ -- d21
      refine WL.nil ?_
      refine Ends.next ?_
      refine CW.seq ?_
      refine CW.condD rfl (fun hc2 => ?_) (fun hc2 => ?_)
      · -- yes
        have hlt2 : j < (bytes l[k]).length := by rw [bytes_length]; omega
        have hek := escL_take (bytes l[k]) j hlt2
        have hbd6 := escL_le ((bytes l[k]).take j)
        have hbd7 : ((bytes l[k]).take j).length ≤ l[k].size := by rw [List.length_take, bytes_length]; omega
        have hbt := (bytes l[k])[j].toNat_lt
        have hsz3 := hb3.size
        rw [hv2] at hq3 hap3
        refine CW.skip ?_
        refine Ends.next ?_
        refine CW.seq ?_
        refine CW.block ?_
        refine CW.seq ?_
        refine CW.region ?_
        refine WL.elem ty25 hq3.sl rfl rfl rfl rfl (by omega) (v := bv (bytes l[k])[j]) (by simp only [Int.toNat_natCast, List.getElem?_map, List.getElem?_eq_getElem hlt2, Option.map_some]) (fun _ => ?_)
        refine WL.v (Val.assign rfl rfl) ?_ -- d7
        refine WL.nil ?_
        refine Ends.next ?_
        refine CW.block ?_
        refine CW.seq ?_
        refine CW.region ?_
        refine WL.v (Val.move rfl rfl) ?_ -- d29
        refine WL.v (Val.eqlI rfl rfl rfl) ?_ -- d30
        refine WL.v (Val.move rfl rfl) ?_ -- d31
        refine WL.or (j := 2) (seg := [_, _]) (r := ?r1) rfl rfl rfl rfl (fun hb34 HK34 => ?hT1) ?_
        case hT1 =>
          refine WL.yes rfl rfl rfl hb34 ?_
          refine WL.v (Val.move rfl rfl) ?_ -- d32
          refine WL.yes rfl rfl rfl hb34 ?_
          refine WL.v (Val.eqlI rfl rfl rfl) ?_ -- d33
          refine WL.v (Val.pickF rfl rfl hb34 rfl) ?_
          refine WL.forget rfl ?_; refine WL.forget rfl ?_
          exact HK34
        refine WL.v (Val.assign rfl rfl) ?_ -- d28
        refine WL.nil ?_
        refine Ends.next ?_
        refine CW.cond rfl (fun hc3 => ?_) (fun hc3 => ?_)
        · -- yes
          have hes := esc_dot (c := (bytes l[k])[j]) (by simpa using hc3)
          refine CW.region ?_
          refine WL.v (Val.move rfl rfl) ?_ -- d35
          refine WL.v (Val.move rfl rfl) ?_ -- d36
          refine WL.buildB (l := [_, _]) [92, (bytes l[k])[j]] rfl rfl (by decide) (by decide) (fun u w4 hu hbu hgu => ?_)
          have hown4 := hown3.keep hbu
          have hq4 := hq3.keep hbu
          have hszu := hbu.size
          refine WL.apL hown4 hu rfl rfl rfl (by simp; omega) (by omega) (fun b5 w5 hown5 hg5 hat5 => ?_)
          have hb5 := hown4.below hg5 (by omega)
          have hq5 := OwnF_kept hq4 hg5 hap3
          have hap5 := apart_step hq4 hap3 hat5
          refine WL.v (Val.assign rfl rfl) ?_ -- d3
          refine WL.nil ?_
          refine Ends.blkn ?_
          refine Ends.blkn ?_
          refine Ends.next ?_
          refine CW.region ?_
          refine WL.v (Val.add rfl rfl rfl _ (IntWalk.i64_in _ (by omega))) ?_ -- d59
          refine WL.v (Val.move rfl rfl) ?_ -- d20
          refine WL.nil ?_
          refine Ends.round (j + 1, b5) (by simp only; omega) ⟨rfl, rfl, rfl, rfl, rfl, rfl, rfl, trivial⟩ ⟨by omega, by rw [hek, hes, ← List.append_assoc]; exact hown5, by rw [hv2]; exact hq5, by rw [hv2]; exact hap5, (hb3.trans (hbu.mono (by omega))).trans hb5⟩
        · -- no
          have hnd : ¬ (((bytes l[k])[j].toNat : Int) = 46 ∨ ((bytes l[k])[j].toNat : Int) = 92) := by simpa using hc3
          refine CW.seq ?_
          refine CW.region ?_
          refine WL.v (Val.move rfl rfl) ?_ -- d40
          refine WL.v (Val.lss rfl rfl rfl) ?_ -- d41
          refine WL.v (Val.move rfl rfl) ?_ -- d42
          refine WL.or (j := 2) (seg := [_, _]) (r := ?r2) rfl rfl rfl rfl (fun hb45 HK45 => ?hT2) ?_
          case hT2 =>
            refine WL.yes rfl rfl rfl hb45 ?_
            refine WL.v (Val.move rfl rfl) ?_ -- d43
            refine WL.yes rfl rfl rfl hb45 ?_
            refine WL.v (Val.gtr rfl rfl rfl) ?_ -- d44
            refine WL.v (Val.pickF rfl rfl hb45 rfl) ?_
            refine WL.forget rfl ?_; refine WL.forget rfl ?_
            exact HK45
          refine WL.v (Val.assign rfl rfl) ?_ -- d39
          refine WL.nil ?_
          refine Ends.next ?_
          refine CW.cond rfl (fun hc4 => ?_) (fun hc4 => ?_)
          · -- yes
            have hes := esc_code hnd (by simpa using hc4)
            refine CW.region ?_
            refine WL.v (Val.move rfl rfl) ?_ -- d46
            refine WL.v (Val.move rfl rfl) ?_ -- d47
            refine WL.v (Val.quo rfl rfl rfl (by decide) _ (IntWalk.u8_quo _ _ (by omega))) ?_
            refine WL.v (Val.add rfl rfl rfl _ (IntWalk.u8_in _ (by omega))) ?_
            refine WL.know 49 (bv (48 + (bytes l[k])[j] / 100)) rfl (congrArg (Value.int .u8) (dg1 _)) ?_
            refine WL.v (Val.move rfl rfl) ?_ -- d50
            refine WL.v (Val.quo rfl rfl rfl (by decide) _ (IntWalk.u8_quo _ _ (by omega))) ?_
            refine WL.v (Val.rem rfl rfl rfl (by decide) _ (IntWalk.rem_in _ _ (by omega))) ?_
            refine WL.v (Val.add rfl rfl rfl _ (IntWalk.u8_in _ (by omega))) ?_
            refine WL.know 53 (bv (48 + (bytes l[k])[j] / 10 % 10)) rfl (congrArg (Value.int .u8) (dg2 _)) ?_
            refine WL.v (Val.move rfl rfl) ?_ -- d54
            refine WL.v (Val.rem rfl rfl rfl (by decide) _ (IntWalk.rem_in _ _ (by omega))) ?_
            refine WL.v (Val.add rfl rfl rfl _ (IntWalk.u8_in _ (by omega))) ?_
            refine WL.know 56 (bv (48 + (bytes l[k])[j] % 10)) rfl (congrArg (Value.int .u8) (dg3 _)) ?_
            refine WL.buildB (l := [_, _, _, _]) [92, 48 + (bytes l[k])[j] / 100, 48 + (bytes l[k])[j] / 10 % 10, 48 + (bytes l[k])[j] % 10] rfl rfl (by decide) (by decide) (fun u w4 hu hbu hgu => ?_)
            have hown4 := hown3.keep hbu
            have hq4 := hq3.keep hbu
            have hszu := hbu.size
            refine WL.apL hown4 hu rfl rfl rfl (by simp; omega) (by omega) (fun b5 w5 hown5 hg5 hat5 => ?_)
            have hb5 := hown4.below hg5 (by omega)
            have hq5 := OwnF_kept hq4 hg5 hap3
            have hap5 := apart_step hq4 hap3 hat5
            refine WL.v (Val.assign rfl rfl) ?_ -- d3
            refine WL.nil ?_
            refine Ends.blkn ?_
            refine Ends.blkn ?_
            refine Ends.next ?_
            refine CW.region ?_
            refine WL.v (Val.add rfl rfl rfl _ (IntWalk.i64_in _ (by omega))) ?_ -- d59
            refine WL.v (Val.move rfl rfl) ?_ -- d20
            refine WL.nil ?_
            refine Ends.round (j + 1, b5) (by simp only; omega) ⟨rfl, rfl, rfl, rfl, rfl, rfl, rfl, trivial⟩ ⟨by omega, by rw [hek, hes, ← List.append_assoc]; exact hown5, by rw [hv2]; exact hq5, by rw [hv2]; exact hap5, (hb3.trans (hbu.mono (by omega))).trans hb5⟩
          · -- no
            have hes := esc_plain hnd (by simpa using hc4)
            refine CW.region ?_
            refine WL.v (Val.move rfl rfl) ?_ -- d24
            refine WL.v (Val.move rfl rfl) ?_ -- d25
            refine WL.buildB (l := [_]) [(bytes l[k])[j]] rfl rfl (by decide) (by decide) (fun u w4 hu hbu hgu => ?_)
            have hown4 := hown3.keep hbu
            have hq4 := hq3.keep hbu
            have hszu := hbu.size
            refine WL.apL hown4 hu rfl rfl rfl (by simp; omega) (by omega) (fun b5 w5 hown5 hg5 hat5 => ?_)
            have hb5 := hown4.below hg5 (by omega)
            have hq5 := OwnF_kept hq4 hg5 hap3
            have hap5 := apart_step hq4 hap3 hat5
            refine WL.v (Val.assign rfl rfl) ?_ -- d3
            refine WL.nil ?_
            refine Ends.blkn ?_
            refine Ends.blkn ?_
            refine Ends.next ?_
            refine CW.region ?_
            refine WL.v (Val.add rfl rfl rfl _ (IntWalk.i64_in _ (by omega))) ?_ -- d59
            refine WL.v (Val.move rfl rfl) ?_ -- d20
            refine WL.nil ?_
            refine Ends.round (j + 1, b5) (by simp only; omega) ⟨rfl, rfl, rfl, rfl, rfl, rfl, rfl, trivial⟩ ⟨by omega, by rw [hek, hes, ← List.append_assoc]; exact hown5, by rw [hv2]; exact hq5, by rw [hv2]; exact hap5, (hb3.trans (hbu.mono (by omega))).trans hb5⟩
      · -- no
        have hjl : j = (bytes l[k]).length := by rw [bytes_length]; omega
        rw [hjl, List.take_length] at hown3
        have hsz3 := hb3.size
        have hbd8 := escL_le (bytes l[k])
        rw [bytes_length] at hbd8
        refine CW.exit ?_
        refine Ends.seqx ?_
        refine Ends.seqx ?_
        refine Ends.blke ?_
        refine Ends.next ?_
        refine CW.region ?_
        refine WL.v (Val.move rfl rfl) ?_ -- d60
        refine WL.buildB (l := [_]) [46] rfl rfl (by decide) (by decide) (fun u w4 hu hbu hgu => ?_)
        have hown4 := hown3.keep hbu
        have hszu := hbu.size
        refine WL.apL hown4 hu rfl rfl rfl (by simp; omega) (by omega) (fun b5 w5 hown5 hg5 hat5 => ?_)
        have hb5 := hown4.below hg5 (by omega)
        refine WL.v (Val.assign rfl rfl) ?_ -- d3
        refine WL.nil ?_
        refine Ends.blkn ?_
        refine Ends.next ?_
        refine CW.region ?_
        refine WL.v (Val.add rfl rfl rfl _ (IntWalk.i64_in _ (by omega))) ?_ -- d63
        refine WL.v (Val.move rfl rfl) ?_ -- d13
        refine WL.nil ?_
        exact Ends.round (k + 1, b5) (by simp only; omega) ⟨rfl, rfl, rfl, rfl, trivial⟩ ⟨hlt, by rw [htk]; exact hown5, (hb3.trans (hbu.mono (by omega))).trans hb5⟩
    · -- no
      have hkl : k = l.length := by omega
      subst hkl
      rw [List.take_length] at hown
      refine CW.exit ?_
      refine Ends.seqx ?_
      refine Ends.seqx ?_
      refine Ends.blke ?_
      refine Ends.next ?_
      refine CW.seq ?_
      refine CW.region ?_
      refine WL.v (Val.move rfl rfl) ?_ -- d64
      refine WL.v (Val.toStr Try.underlying25 Try.underlying9 Try.underlying5 rfl rfl (at_ hown.sl)) ?_
      refine WL.v (Val.assign rfl rfl) ?_ -- d2
      refine WL.nil ?_
      refine Ends.next ?_
      refine CW.ret ?_
      exact Ends.ret1 rfl rfl ⟨by rw [textN, if_neg (by rintro rfl; simp at hc0)]; rfl, hb⟩
end Go.Proofs.Ytjdgckamjgldmaa
