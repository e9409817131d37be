/- Walks: small letters, Check. -/
import Derived.Test.YtjdgckamjgldmaaBase
namespace Go.Proofs.Ytjdgckamjgldmaa
open Go.RowKit Go.Eng

theorem bodied60 : Bodied Try.prog 60 := bodied Try.func60 rfl rfl
theorem bodied61 : Bodied Try.prog 61 := bodied Try.func61 rfl rfl
theorem bodied62 : Bodied Try.prog 62 := bodied Try.func62 rfl rfl
theorem bodied66 : Bodied Try.prog 66 := bodied Try.func66 rfl rfl
theorem bodied67 : Bodied Try.prog 67 := bodied Try.func67 rfl rfl
theorem bodied37 : Bodied Try.prog 37 := bodied Try.func37 rfl rfl
theorem bodied38 : Bodied Try.prog 38 := bodied Try.func38 rfl rfl
theorem bodied39 : Bodied Try.prog 39 := bodied Try.func39 rfl rfl
theorem bodied47 : Bodied Try.prog 47 := bodied Try.func47 rfl rfl
theorem bodied48 : Bodied Try.prog 48 := bodied Try.func48 rfl rfl
theorem bodied44 : Bodied Try.prog 44 := bodied Try.func44 rfl rfl
theorem bodied45 : Bodied Try.prog 45 := bodied Try.func45 rfl rfl
theorem bodied42 : Bodied Try.prog 42 := bodied Try.func42 rfl rfl
theorem bodied43 : Bodied Try.prog 43 := bodied Try.func43 rfl rfl
theorem bodied30 : Bodied Try.prog 30 := bodied Try.func30 rfl rfl
theorem bodied31 : Bodied Try.prog 31 := bodied Try.func31 rfl rfl
theorem bodied19 : Bodied Try.prog 19 := bodied Try.func19 rfl rfl
theorem bodied32 : Bodied Try.prog 32 := bodied Try.func32 rfl rfl
theorem bodied33 : Bodied Try.prog 33 := bodied Try.func33 rfl rfl
theorem bodied34 : Bodied Try.prog 34 := bodied Try.func34 rfl rfl
theorem bodied35 : Bodied Try.prog 35 := bodied Try.func35 rfl rfl
theorem bodied36 : Bodied Try.prog 36 := bodied Try.func36 rfl rfl
theorem bodied40 : Bodied Try.prog 40 := bodied Try.func40 rfl rfl
theorem bodied41 : Bodied Try.prog 41 := bodied Try.func41 rfl rfl
theorem bodied46 : Bodied Try.prog 46 := bodied Try.func46 rfl rfl
-- signet/signetref3.low
theorem low67 (c : UInt8) (w : World) : Runs Try.prog 67 #[bv c] w fun r w' => r = bv (lowB c) ∧ w = w' := by
  have hc := c.toNat_lt
  refine enter (N := 12) (args := [_]) Try.func67 rfl rfl (Nat.le_of_ble_eq_true rfl) ?_
  refine CW.seq ?_
  refine CW.region ?_
  refine WL.v (Val.assign rfl rfl) ?_ -- d2
  refine WL.nil ?_
  refine Ends.next ?_
  refine CW.seq ?_
  refine CW.seq ?_
  refine CW.region ?_
  refine WL.v (Val.move rfl rfl) ?_ -- d3
  refine WL.v (Val.geq rfl rfl rfl) ?_ -- d4
  refine WL.v (Val.move rfl rfl) ?_ -- d5
  refine WL.and (j := 2) (seg := [_, _]) (r := ?r1) rfl rfl rfl rfl (fun hb8 HK8 => ?hT1) ?_
  case hT1 =>
    refine WL.yes rfl rfl rfl hb8 ?_
    refine WL.v (Val.move rfl rfl) ?_ -- d6
    refine WL.yes rfl rfl rfl hb8 ?_
    refine WL.v (Val.leq rfl rfl rfl) ?_ -- d7
    refine WL.v (Val.pickT rfl rfl hb8 rfl) ?_
    refine WL.forget rfl ?_; refine WL.forget rfl ?_
    exact HK8
  refine WL.nil ?_
  refine Ends.next ?_
  refine CW.cond rfl (fun hc0 => ?_) (fun hc0 => ?_)
  · -- yes
    have hup : 65 ≤ c.toNat ∧ c.toNat ≤ 90 := by simp at hc0; omega
    obtain ⟨hl1, hl2⟩ := lowB_up hup
    refine CW.seq ?_
    refine CW.region ?_
    refine WL.v (Val.move rfl rfl) ?_ -- d9
    refine WL.v (Val.add rfl rfl rfl _ (IntWalk.u8_in _ (by omega))) ?_ -- d10
    refine WL.v (Val.assign rfl rfl) ?_ -- d2
    refine WL.nil ?_
    refine Ends.next ?_
    refine CW.ret ?_
    refine Ends.seqr ?_
    exact Ends.ret1 rfl rfl ⟨by rw [hl1, bv, byteV, hl2]; rfl, rfl⟩
  · -- no
    have hnup : ¬ (65 ≤ c.toNat ∧ c.toNat ≤ 90) := by intro hh; simp at hc0; omega
    refine CW.skip ?_
    refine Ends.next ?_
    refine CW.seq ?_
    refine CW.region ?_
    refine WL.v (Val.move rfl rfl) ?_ -- d11
    refine WL.v (Val.assign rfl rfl) ?_ -- d2
    refine WL.nil ?_
    refine Ends.next ?_
    refine CW.ret ?_
    exact Ends.ret1 rfl rfl ⟨by rw [lowB_same hnup], rfl⟩
-- signet/name.small
theorem small61 (s : ByteArray) (w : World) (hs : s.size ≤ 1000000000000000) : Runs Try.prog 61 #[sv s] w fun r w' => r = sv (lowS s) ∧ Below w.heap.size w w' := by
  refine enter (N := 30) (args := [_]) Try.func61 rfl rfl (Nat.le_of_ble_eq_true rfl) ?_
  refine CW.seq ?_
  refine CW.region ?_
  refine WL.v (Val.assign rfl rfl) ?_ -- d2
  refine WL.nil ?_
  refine Ends.next ?_
  refine CW.seq ?_
  refine CW.region ?_
  refine WL.v (Val.move rfl rfl) ?_ -- d6
  refine WL.toBytes Try.underlying9 Try.underlying25 Try.underlying5 rfl rfl (fun v w0 hown0 hb0 => ?_)
  obtain ⟨A, c, hv, -⟩ := id hown0.sl
  have hlen : (List.map byteV s.data.toList).length = s.size := by rw [List.length_map]; rfl
  rw [hlen] at hv
  subst hv
  refine WL.v (Val.assign rfl rfl) ?_ -- d3
  refine WL.nil ?_
  refine Ends.next ?_
  refine CW.seq ?_
  refine CW.seq ?_
  refine CW.region ?_
  refine WL.v (Val.move rfl rfl) ?_ -- d8
  refine WL.v (Val.lenSl rfl Try.underlying25 rfl) ?_ -- d9
  refine WL.v (Val.move rfl rfl) ?_ -- d10
  refine WL.nil ?_
  refine Ends.next ?_
  refine CW.block ?_
  refine CW.loop (α := Nat) (fun k => [(3, .slice A s.size c), (8, .slice A s.size c), (9, .int .i64 s.size), (10, .int .i64 k)]) (fun k w1 => k ≤ s.size ∧ OwnF w1 w.heap.size 5 (.slice A s.size c) ((mixL (bytes s) k).map bv) ∧ Below w.heap.size w w1) (fun k => s.size - k) 0 ⟨rfl, rfl, rfl, rfl, trivial⟩ ⟨Nat.zero_le _, by rw [mixL_zero]; exact hown0, hb0⟩ ?_
  rintro k w1 ⟨hk, hown, hb⟩
  refine CW.seq ?_
  refine CW.region ?_
  refine WL.v (Val.lss rfl rfl rfl) ?_ -- d11
  refine WL.nil ?_
  refine Ends.next ?_
  refine CW.seq ?_
  refine CW.condD rfl (fun hc0 => ?_) (fun hc0 => ?_)
  · -- yes
    have hlt : k < s.size := by omega
    have hlt' : k < (bytes s).length := hlt
    have hbt := (bytes s)[k].toNat_lt
    refine CW.skip ?_
    refine Ends.next ?_
    refine CW.seq ?_
    refine CW.block ?_
    refine CW.seq ?_
    refine CW.region ?_
    refine WL.v (Val.move rfl rfl) ?_ -- d12
    refine WL.elem ty25 hown.sl rfl rfl rfl rfl (by omega) (v := bv (bytes s)[k]) (by simp only [Int.toNat_natCast, List.getElem?_map, mixL_get _ _ hlt', Option.map_some]) (fun _ => ?_)
    refine WL.v (Val.assign rfl rfl) ?_ -- d4
    refine WL.v (Val.assign rfl rfl) ?_ -- d5
    refine WL.nil ?_
    refine Ends.next ?_
    refine CW.seq ?_
    refine CW.region ?_
    refine WL.v (Val.move rfl rfl) ?_ -- d15
    refine WL.v (Val.geq rfl rfl rfl) ?_ -- d16
    refine WL.v (Val.move rfl rfl) ?_ -- d17
    refine WL.and (j := 2) (seg := [_, _]) (r := ?r1) rfl rfl rfl rfl (fun hb20 HK20 => ?hT1) ?_
    case hT1 =>
      refine WL.yes rfl rfl rfl hb20 ?_
      refine WL.v (Val.move rfl rfl) ?_ -- d18
      refine WL.yes rfl rfl rfl hb20 ?_
      refine WL.v (Val.leq rfl rfl rfl) ?_ -- d19
      refine WL.v (Val.pickT rfl rfl hb20 rfl) ?_
      refine WL.forget rfl ?_; refine WL.forget rfl ?_
      exact HK20
    refine WL.nil ?_
    refine Ends.next ?_
    refine CW.cond rfl (fun hc1 => ?_) (fun hc1 => ?_)
    · -- yes
      have hup : 65 ≤ (bytes s)[k].toNat ∧ (bytes s)[k].toNat ≤ 90 := by simp at hc1; omega
      obtain ⟨hl1, hl2⟩ := lowB_up hup
      refine CW.region ?_
      refine WL.v (Val.move rfl rfl) ?_ -- d21
      refine WL.v (Val.move rfl rfl) ?_ -- d22
      refine WL.v (Val.move rfl rfl) ?_ -- d23
      refine WL.v (Val.add rfl rfl rfl _ (IntWalk.u8_in _ (by omega))) ?_ -- d24
      refine WL.v (Val.subt rfl rfl rfl _ (IntWalk.u8_in _ (by omega))) ?_ -- d25
      refine WL.setElem (u := bv (lowB (bytes s)[k])) ty25 hown rfl rfl rfl rfl (fun q => ?_) rfl rfl (by omega) (by rw [List.length_map, mixL_length]; exact hlt') (fun q w2 hown2 hb2 => ?_)
      · simp only [Opd, Env.get]
        rw [bv, byteV, hl1, hl2]
        exact congrArg (fun x => some (Value.int .u8 x)) (by omega)
      refine WL.nil ?_
      refine Ends.blkn ?_
      refine Ends.next ?_
      refine CW.region ?_
      refine WL.v (Val.add rfl rfl rfl _ (IntWalk.i64_in _ (by omega))) ?_ -- d27
      refine WL.v (Val.move rfl rfl) ?_ -- d10
      refine WL.nil ?_
      first
        | exact Ends.round (k + 1) (by omega) ⟨rfl, rfl, rfl, rfl, trivial⟩ ⟨hlt, by rw [← mixL_set _ _ hlt', List.map_set]; exact hown2, hb.trans hb2⟩
        | exact Ends.round (k + 1) (by omega) ⟨rfl, rfl, rfl, rfl, trivial⟩ ⟨hlt, by rw [← mixL_same _ _ hlt' (lowB_same hnup)]; exact hown, hb⟩
    · -- no
      have hnup : ¬ (65 ≤ (bytes s)[k].toNat ∧ (bytes s)[k].toNat ≤ 90) := by intro hh; simp at hc1; omega
      refine CW.skip ?_
      refine Ends.blkn ?_
      refine Ends.next ?_
      refine CW.region ?_
      refine WL.v (Val.add rfl rfl rfl _ (IntWalk.i64_in _ (by omega))) ?_ -- d27
      refine WL.v (Val.move rfl rfl) ?_ -- d10
      refine WL.nil ?_
      first
        | exact Ends.round (k + 1) (by omega) ⟨rfl, rfl, rfl, rfl, trivial⟩ ⟨hlt, by rw [← mixL_set _ _ hlt', List.map_set]; exact hown2, hb.trans hb2⟩
        | exact Ends.round (k + 1) (by omega) ⟨rfl, rfl, rfl, rfl, trivial⟩ ⟨hlt, by rw [← mixL_same _ _ hlt' (lowB_same hnup)]; exact hown, hb⟩
  · -- no
    have hkl : k = (bytes s).length := by rw [bytes_length]; omega
    rw [hkl, mixL_all] at hown
    refine CW.exit ?_
    refine Ends.seqx ?_
    refine Ends.seqx ?_
    refine Ends.blke ?_
    refine Ends.next ?_
    refine CW.seq ?_
    refine CW.region ?_
    refine WL.v (Val.move rfl rfl) ?_ -- d28
    refine WL.v (Val.toStr Try.underlying25 Try.underlying9 Try.underlying5 rfl rfl (at_ hown.sl)) ?_
    refine WL.v (Val.assign rfl rfl) ?_ -- d2
    refine WL.nil ?_
    refine Ends.next ?_
    refine CW.ret ?_
    exact Ends.ret1 rfl rfl ⟨rfl, hb⟩
-- signet/signetref3.LowText
theorem low62 (s : ByteArray) (w : World) (hs : s.size ≤ 1000000000000000) : Runs Try.prog 62 #[sv s] w fun r w' => r = sv (lowS s) ∧ Below w.heap.size w w' := by
  refine enter (N := 23) (args := [_]) Try.func62 rfl rfl (Nat.le_of_ble_eq_true rfl) ?_
  refine CW.seq ?_
  refine CW.region ?_
  refine WL.v (Val.assign rfl rfl) ?_ -- d2
  refine WL.nil ?_
  refine Ends.next ?_
  refine CW.seq ?_
  refine CW.region ?_
  refine WL.v (Val.move rfl rfl) ?_ -- d5
  refine WL.toBytes Try.underlying9 Try.underlying25 Try.underlying5 rfl rfl (fun v w0 hown0 hb0 => ?_)
  obtain ⟨A, c, hv, -⟩ := id hown0.sl
  have hlen : (List.map byteV s.data.toList).length = s.size := by rw [List.length_map]; rfl
  rw [hlen] at hv
  subst hv
  refine WL.v (Val.assign rfl rfl) ?_ -- d3
  refine WL.nil ?_
  refine Ends.next ?_
  refine CW.seq ?_
  refine CW.seq ?_
  refine CW.region ?_
  refine WL.v (Val.assign rfl rfl) ?_ -- d4
  refine WL.nil ?_
  refine Ends.next ?_
  refine CW.block ?_
  refine CW.loop (α := Nat) (fun k => [(3, .slice A s.size c), (4, .int .i64 k)]) (fun k w1 => k ≤ s.size ∧ OwnF w1 w.heap.size 5 (.slice A s.size c) ((mixL (bytes s) k).map bv) ∧ Below w.heap.size w w1) (fun k => s.size - k) 0 ⟨rfl, rfl, trivial⟩ ⟨Nat.zero_le _, by rw [mixL_zero]; exact hown0, hb0⟩ ?_
  rintro k w1 ⟨hk, hown, hb⟩
  refine CW.seq ?_
  refine CW.seq ?_
  refine CW.region ?_
  refine WL.v (Val.move rfl rfl) ?_ -- d7
  refine WL.v (Val.move rfl rfl) ?_ -- d8
  refine WL.v (Val.lenSl rfl Try.underlying25 rfl) ?_ -- d9
  refine WL.v (Val.lss rfl rfl rfl) ?_ -- d10
  refine WL.nil ?_
  refine Ends.next ?_
  refine CW.condD rfl (fun hc0 => ?_) (fun hc0 => ?_)
  · -- yes
    have hlt : k < s.size := by omega
    have hlt' : k < (bytes s).length := hlt
    have hbt := (bytes s)[k].toNat_lt
    refine CW.skip ?_
    refine Ends.next ?_
    refine CW.seq ?_
    refine CW.block ?_
    refine CW.region ?_
    refine WL.v (Val.move rfl rfl) ?_ -- d13
    refine WL.v (Val.move rfl rfl) ?_ -- d14
    refine WL.v (Val.move rfl rfl) ?_ -- d15
    refine WL.v (Val.move rfl rfl) ?_ -- d16
    refine WL.elem ty25 hown.sl rfl rfl rfl rfl (by omega) (v := bv (bytes s)[k]) (by simp only [Int.toNat_natCast, List.getElem?_map, mixL_get _ _ hlt', Option.map_some]) (fun _ => ?_)
    refine WL.call bodied67 rfl rfl (low67 _ _) ?_
    rintro _ _ ⟨rfl, rfl⟩
    refine WL.setElem (u := bv (lowB (bytes s)[k])) ty25 hown rfl rfl rfl rfl (fun q => rfl) rfl rfl (by omega) (by rw [List.length_map, mixL_length]; exact hlt') (fun q w2 hown2 hb2 => ?_)
    refine WL.nil ?_
    refine Ends.blkn ?_
    refine Ends.next ?_
    refine CW.region ?_
    refine WL.v (Val.move rfl rfl) ?_ -- d11
    refine WL.v (Val.add rfl rfl rfl _ (IntWalk.i64_in _ (by omega))) ?_ -- d12
    refine WL.v (Val.assign rfl rfl) ?_ -- d4
    refine WL.nil ?_
    exact Ends.round (k + 1) (by omega) ⟨rfl, rfl, trivial⟩ ⟨hlt, by rw [← mixL_set _ _ hlt', List.map_set]; exact hown2, hb.trans hb2⟩
  · -- no
    have hkl : k = (bytes s).length := by rw [bytes_length]; omega
    rw [hkl, mixL_all] at hown
    refine CW.exit ?_
    refine Ends.seqx ?_
    refine Ends.seqx ?_
    refine Ends.blke ?_
    refine Ends.next ?_
    refine CW.seq ?_
    refine CW.region ?_
    refine WL.v (Val.move rfl rfl) ?_ -- d21
    refine WL.v (Val.toStr Try.underlying25 Try.underlying9 Try.underlying5 rfl rfl (at_ hown.sl)) ?_
    refine WL.v (Val.assign rfl rfl) ?_ -- d2
    refine WL.nil ?_
    refine Ends.next ?_
    refine CW.ret ?_
    exact Ends.ret1 rfl rfl ⟨rfl, hb⟩
-- signet/name.Lower
theorem lower42 (v : Value) (l : List ByteArray) (w : World) (h : Nm w v l) (hl : l.length ≤ 1000000) (hs : ∀ s ∈ l, s.size ≤ 1000000000000000) :
    Runs Try.prog 42 #[v] w fun r w' => OwnN w' w.heap.size r (l.map lowS) ∧ Below w.heap.size w w' := by
  obtain ⟨A, c, hv, -⟩ := id h
  rw [List.length_map] at hv
  subst hv
  refine enter (N := 19) (args := [_]) Try.func42 rfl rfl (Nat.le_of_ble_eq_true rfl) ?_
  refine CW.seq ?_
  refine CW.region ?_
  refine WL.v (Val.assign rfl rfl) ?_ -- d2
  refine WL.nil ?_
  refine Ends.next ?_
  refine CW.seq ?_
  refine CW.region ?_
  refine WL.v (Val.assign rfl rfl) ?_ -- d3
  refine WL.nil ?_
  refine Ends.next ?_
  refine CW.seq ?_
  refine CW.seq ?_
  refine CW.region ?_
  refine WL.v (Val.move rfl rfl) ?_ -- d6
  refine WL.v (Val.lenSl rfl Try.underlying23 rfl) ?_ -- d7
  refine WL.v (Val.move rfl rfl) ?_ -- d8
  refine WL.nil ?_
  refine Ends.next ?_
  refine CW.block ?_
  refine CW.loop (α := Nat × Value) (fun x => [(3, x.2), (6, .slice A l.length c), (7, .int .i64 l.length), (8, .int .i64 x.1)]) (fun x w1 => x.1 ≤ l.length ∧ OwnN w1 w.heap.size x.2 ((l.take x.1).map lowS) ∧ Below w.heap.size w w1) (fun x => l.length - x.1) (0, .slice none 0 0) ⟨rfl, rfl, rfl, rfl, trivial⟩ ⟨Nat.zero_le _, by simpa using OwnN.nil _ _, Below.refl _ _⟩ ?_
  rintro ⟨k, b⟩ w1 ⟨hk, hown, hbw⟩
  simp only at hk hown
  have hsz := hbw.size
  refine CW.seq ?_
  refine CW.region ?_
  refine WL.v (Val.lss rfl rfl rfl) ?_ -- d9
  refine WL.nil ?_
  refine Ends.next ?_
  refine CW.seq ?_
  refine CW.condD rfl (fun hc0 => ?_) (fun hc0 => ?_)
  · -- yes
    have hlt : k < l.length := by omega
    have hll : ((l.take k).map lowS).length ≤ l.length := by simp; omega
    refine CW.skip ?_
    refine Ends.next ?_
    refine CW.seq ?_
    refine CW.block ?_
    refine CW.seq ?_
    refine CW.region ?_
    refine WL.elem ty23 (h.keep hbw) rfl rfl rfl rfl (by omega) (v := sv l[k]) (by simp [hlt]) (fun _ => ?_)
    refine WL.v (Val.assign rfl rfl) ?_ -- d5
    refine WL.nil ?_
    refine Ends.next ?_
    refine CW.region ?_
    refine WL.v (Val.move rfl rfl) ?_ -- d12
    refine WL.v (Val.move rfl rfl) ?_ -- d13
    refine WL.call bodied61 rfl rfl (small61 _ _ (hs _ (List.getElem_mem hlt))) ?_
    rintro _ w2 ⟨rfl, hb2⟩
    have hown2 : OwnN w2 w.heap.size b ((l.take k).map lowS) := hown.keep hb2
    refine WL.build1 ty23 rfl rfl rfl ?_
    refine WL.apN (lowS l[k]) hown2 rfl rfl rfl (by omega) (by have := hb2.size; omega) (fun v3 w3 hown3 hg3 _ => ?_)
    have hb3 := hown2.below hg3 (by have := hb2.size; omega)
    refine WL.v (Val.assign rfl rfl) ?_ -- d3
    refine WL.nil ?_
    refine Ends.blkn ?_
    refine Ends.next ?_
    refine CW.region ?_
    refine WL.v (Val.add rfl rfl rfl _ (IntWalk.i64_in _ (by omega))) ?_ -- d17
    refine WL.v (Val.move rfl rfl) ?_ -- d8
    refine WL.nil ?_
    exact Ends.round (k + 1, v3) (by simp only; omega) ⟨rfl, rfl, rfl, rfl, trivial⟩ ⟨hlt, by rw [List.take_succ_eq_append_getElem hlt, List.map_append]; exact hown3, (hbw.trans (hb2.mono hsz)).trans hb3⟩
  · -- no
    have hkl : k = l.length := by omega
    subst hkl
    rw [List.take_length] at hown
    refine CW.exit ?_
    refine Ends.seqx ?_
    refine Ends.seqx ?_
    refine Ends.blke ?_
    refine Ends.next ?_
    refine CW.seq ?_
    refine CW.region ?_
    refine WL.v (Val.move rfl rfl) ?_ -- d18
    refine WL.v (Val.assign rfl rfl) ?_ -- d2
    refine WL.nil ?_
    refine Ends.next ?_
    refine CW.ret ?_
    exact Ends.ret1 rfl rfl ⟨hown, hbw⟩
-- signet/signetref3.Lower
theorem lower43 (v : Value) (l : List ByteArray) (w : World) (h : Nm w v l) (hl : l.length ≤ 1000000) (hs : ∀ s ∈ l, s.size ≤ 1000000000000000) :
    Runs Try.prog 43 #[v] w fun r w' => OwnN w' w.heap.size r (l.map lowS) ∧ Below w.heap.size w w' := by
  obtain ⟨A, c, hv, -⟩ := id h
  rw [List.length_map] at hv
  subst hv
  refine enter (N := 20) (args := [_]) Try.func43 rfl rfl (Nat.le_of_ble_eq_true rfl) ?_
  refine CW.seq ?_
  refine CW.region ?_
  refine WL.v (Val.assign rfl rfl) ?_ -- d2
  refine WL.nil ?_
  refine Ends.next ?_
  refine CW.seq ?_
  refine CW.region ?_
  refine WL.v (Val.assign rfl rfl) ?_ -- d3
  refine WL.nil ?_
  refine Ends.next ?_
  refine CW.seq ?_
  refine CW.seq ?_
  refine CW.region ?_
  refine WL.v (Val.assign rfl rfl) ?_ -- d4
  refine WL.nil ?_
  refine Ends.next ?_
  refine CW.block ?_
  refine CW.loop (α := Nat × Value) (fun x => [(0, .slice A l.length c), (3, x.2), (4, .int .i64 x.1)]) (fun x w1 => x.1 ≤ l.length ∧ OwnN w1 w.heap.size x.2 ((l.take x.1).map lowS) ∧ Below w.heap.size w w1) (fun x => l.length - x.1) (0, .slice none 0 0) ⟨rfl, rfl, rfl, trivial⟩ ⟨Nat.zero_le _, by simpa using OwnN.nil _ _, Below.refl _ _⟩ ?_
  rintro ⟨k, b⟩ w1 ⟨hk, hown, hbw⟩
  simp only at hk hown
  have hsz := hbw.size
  refine CW.seq ?_
  refine CW.seq ?_
  refine CW.region ?_
  refine WL.v (Val.move rfl rfl) ?_ -- d5
  refine WL.v (Val.move rfl rfl) ?_ -- d6
  refine WL.v (Val.lenSl rfl Try.underlying23 rfl) ?_ -- d7
  refine WL.v (Val.lss rfl rfl rfl) ?_ -- d8
  refine WL.nil ?_
  refine Ends.next ?_
  refine CW.condD rfl (fun hc0 => ?_) (fun hc0 => ?_)
  · -- yes
    have hlt : k < l.length := by omega
    have hll : ((l.take k).map lowS).length ≤ l.length := by simp; omega
    refine CW.skip ?_
    refine Ends.next ?_
    refine CW.seq ?_
    refine CW.block ?_
    refine CW.region ?_
    refine WL.v (Val.move rfl rfl) ?_ -- d11
    refine WL.v (Val.move rfl rfl) ?_ -- d12
    refine WL.v (Val.move rfl rfl) ?_ -- d13
    refine WL.elem ty23 (h.keep hbw) rfl rfl rfl rfl (by omega) (v := sv l[k]) (by simp [hlt]) (fun _ => ?_)
    refine WL.call bodied62 rfl rfl (low62 _ _ (hs _ (List.getElem_mem hlt))) ?_
    rintro _ w2 ⟨rfl, hb2⟩
    have hown2 : OwnN w2 w.heap.size b ((l.take k).map lowS) := hown.keep hb2
    refine WL.build1 ty23 rfl rfl rfl ?_
    refine WL.apN (lowS l[k]) hown2 rfl rfl rfl (by omega) (by have := hb2.size; omega) (fun v3 w3 hown3 hg3 _ => ?_)
    have hb3 := hown2.below hg3 (by have := hb2.size; omega)
    refine WL.v (Val.assign rfl rfl) ?_ -- d3
    refine WL.nil ?_
    refine Ends.blkn ?_
    refine Ends.next ?_
    refine CW.region ?_
    refine WL.v (Val.move rfl rfl) ?_ -- d9
    refine WL.v (Val.add rfl rfl rfl _ (IntWalk.i64_in _ (by omega))) ?_ -- d10
    refine WL.v (Val.assign rfl rfl) ?_ -- d4
    refine WL.nil ?_
    exact Ends.round (k + 1, v3) (by simp only; omega) ⟨rfl, rfl, rfl, trivial⟩ ⟨hlt, by rw [List.take_succ_eq_append_getElem hlt, List.map_append]; exact hown3, (hbw.trans (hb2.mono hsz)).trans hb3⟩
  · -- no
    have hkl : k = l.length := by omega
    subst hkl
    rw [List.take_length] at hown
    refine CW.exit ?_
    refine Ends.seqx ?_
    refine Ends.seqx ?_
    refine Ends.blke ?_
    refine Ends.next ?_
    refine CW.seq ?_
    refine CW.region ?_
    refine WL.v (Val.move rfl rfl) ?_ -- d19
    refine WL.v (Val.assign rfl rfl) ?_ -- d2
    refine WL.nil ?_
    refine Ends.next ?_
    refine CW.ret ?_
    exact Ends.ret1 rfl rfl ⟨hown, hbw⟩
end Go.Proofs.Ytjdgckamjgldmaa
