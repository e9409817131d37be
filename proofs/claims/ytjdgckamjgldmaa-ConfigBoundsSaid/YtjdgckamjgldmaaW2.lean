/- Walks: the wire form; the star; small letters. -/
import Derived.Test.YtjdgckamjgldmaaBase
namespace Go.Proofs.Ytjdgckamjgldmaa
open Go.RowKit Go.Eng

-- signet/name.Wild
theorem wild44 (v : Value) (l : List ByteArray) (w : World) (h : Nm w v l) :
    Runs Try.prog 44 #[v] w fun r w' => r = .bool (wildN l) ∧ w = w' := by
  obtain ⟨A, c, hv, -⟩ := id h
  rw [List.length_map] at hv
  subst hv
  refine enter (N := 12) (args := [_]) Try.func44 rfl rfl (Nat.le_of_ble_eq_true rfl) ?_
  refine CW.seq ?_
  refine CW.region ?_
  refine WL.v (Val.assign rfl rfl) ?_ -- d2
  refine WL.nil ?_
  refine Ends.next ?_
  refine CW.seq ?_
  refine CW.region ?_
  refine WL.v (Val.move rfl rfl) ?_ -- d3
  refine WL.v (Val.lenSl rfl Try.underlying23 rfl) ?_ -- d4
  refine WL.v (Val.gtr rfl rfl rfl) ?_ -- d5
  refine WL.v (Val.move rfl rfl) ?_ -- d6
  refine WL.and (j := 3) (seg := [_, _, _, _]) (r := wildN l) rfl rfl rfl rfl (fun hb11 HK11 => ?hT1) ?_
  case hT1 =>
    refine WL.yes rfl rfl rfl hb11 ?_
    have hlt : 0 < l.length := by have := of_decide_eq_true hb11; omega
    obtain ⟨ad, rfl, hce⟩ := h.at_ hlt
    refine WL.v (Val.move rfl rfl) ?_
    refine WL.yes rfl rfl rfl hb11 ?_
    refine WL.v (Val.indexAddr rfl ty23 rfl rfl (by omega) (by omega)) ?_ -- d8
    refine WL.yes rfl rfl rfl hb11 ?_
    refine WL.v (Val.load rfl ty23.plain rfl (at_ hce)) ?_
    refine WL.yes rfl rfl rfl hb11 ?_
    refine WL.v (Val.eqlS rfl rfl rfl) ?_ -- d10
    refine WL.v (Val.pickT rfl rfl hb11 rfl) ?_
    refine WL.know 11 (.bool (wildN l)) rfl (by cases l with | nil => simp at hlt | cons s r => simp [wildN, mkS]; rfl) ?_
    refine WL.forget rfl ?_
    refine WL.forget rfl ?_; refine WL.forget rfl ?_; refine WL.forget rfl ?_; refine WL.forget rfl ?_
    exact HK11
  refine WL.v (Val.assign rfl rfl) ?_ -- d2
  refine WL.nil ?_
  refine Ends.next ?_
  refine CW.ret ?_
  refine Ends.ret1 rfl rfl ⟨?_, rfl⟩
  cases l with
  | nil => rfl
  | cons s r => simp [wildN]
-- signet/signetref3.Wild
theorem wild45 (v : Value) (l : List ByteArray) (w : World) (h : Nm w v l) :
    Runs Try.prog 45 #[v] w fun r w' => r = .bool (wildN l) ∧ w = w' := by
  obtain ⟨A, c, hv, -⟩ := id h
  rw [List.length_map] at hv
  subst hv
  refine enter (N := 12) (args := [_]) Try.func45 rfl rfl (Nat.le_of_ble_eq_true rfl) ?_
  refine CW.seq ?_
  refine CW.region ?_
  refine WL.v (Val.assign rfl rfl) ?_ -- d2
  refine WL.nil ?_
  refine Ends.next ?_
  refine CW.seq ?_
  refine CW.region ?_
  refine WL.v (Val.move rfl rfl) ?_ -- d3
  refine WL.v (Val.lenSl rfl Try.underlying23 rfl) ?_ -- d4
  refine WL.v (Val.gtr rfl rfl rfl) ?_ -- d5
  refine WL.v (Val.move rfl rfl) ?_ -- d6
  refine WL.and (j := 3) (seg := [_, _, _, _]) (r := wildN l) rfl rfl rfl rfl (fun hb11 HK11 => ?hT1) ?_
  case hT1 =>
    refine WL.yes rfl rfl rfl hb11 ?_
    have hlt : 0 < l.length := by have := of_decide_eq_true hb11; omega
    obtain ⟨ad, rfl, hce⟩ := h.at_ hlt
    refine WL.v (Val.move rfl rfl) ?_
    refine WL.yes rfl rfl rfl hb11 ?_
    refine WL.v (Val.indexAddr rfl ty23 rfl rfl (by omega) (by omega)) ?_ -- d8
    refine WL.yes rfl rfl rfl hb11 ?_
    refine WL.v (Val.load rfl ty23.plain rfl (at_ hce)) ?_
    refine WL.yes rfl rfl rfl hb11 ?_
    refine WL.v (Val.eqlS rfl rfl rfl) ?_ -- d10
    refine WL.v (Val.pickT rfl rfl hb11 rfl) ?_
    refine WL.know 11 (.bool (wildN l)) rfl (by cases l with | nil => simp at hlt | cons s r => simp [wildN, mkS]; rfl) ?_
    refine WL.forget rfl ?_
    refine WL.forget rfl ?_; refine WL.forget rfl ?_; refine WL.forget rfl ?_; refine WL.forget rfl ?_
    exact HK11
  refine WL.v (Val.assign rfl rfl) ?_ -- d2
  refine WL.nil ?_
  refine Ends.next ?_
  refine CW.ret ?_
  refine Ends.ret1 rfl rfl ⟨?_, rfl⟩
  cases l with
  | nil => rfl
  | cons s r => simp [wildN]
-- signet/name.Wire
theorem wire33 (v : Value) (l : List ByteArray) (w : World) (h : Nm w v l) (hs : (wireL l).length ≤ 1000000) :
    Runs Try.prog 33 #[v] w fun r w' => OwnB w' w.heap.size r (wireL l ++ [0]) ∧ Below w.heap.size w w' := by
  have hlen : l.length ≤ 1000000 := by rw [wireL_length] at hs; omega
  obtain ⟨A, c, hv, -⟩ := id h
  rw [List.length_map] at hv
  subst hv
  refine enter (N := 24) (args := [_]) Try.func33 rfl rfl (Nat.le_of_ble_eq_true rfl) ?_
  refine CW.seq ?_
  refine CW.region ?_
  refine WL.v (Val.assign rfl rfl) ?_ -- d2
  refine WL.nil ?_
  refine Ends.next ?_
  refine CW.seq ?_
  refine CW.region ?_
  refine WL.v (Val.assign rfl rfl) ?_ -- d3
  refine WL.nil ?_
  refine Ends.next ?_
  refine CW.seq ?_
  refine CW.seq ?_
  refine CW.region ?_
  refine WL.v (Val.move rfl rfl) ?_ -- d6
  refine WL.v (Val.lenSl rfl Try.underlying23 rfl) ?_ -- d7
  refine WL.v (Val.move rfl rfl) ?_ -- d8
  refine WL.nil ?_
  refine Ends.next ?_
  refine CW.block ?_
  refine CW.loop (α := Nat × Value) (fun x => [(3, x.2), (6, .slice A l.length c), (7, .int .i64 l.length), (8, .int .i64 x.1)]) (fun x w1 => x.1 ≤ l.length ∧ OwnB w1 w.heap.size x.2 (wireL (l.take x.1)) ∧ Below w.heap.size w w1) (fun x => l.length - x.1) (0, .slice none 0 0) ⟨rfl, rfl, rfl, rfl, trivial⟩ ⟨Nat.zero_le _, OwnB.nil _ _, Below.refl _ _⟩ ?_
  rintro ⟨k, b⟩ w1 ⟨hk, hown, hbw⟩
  simp only at hk hown
  have hsz := hbw.size
  refine CW.seq ?_
  refine CW.region ?_
  refine WL.v (Val.lss rfl rfl rfl) ?_ -- d9
  refine WL.nil ?_
  refine Ends.next ?_
  refine CW.seq ?_
  refine CW.condD rfl (fun hc0 => ?_) (fun hc0 => ?_)
  · -- yes
    have hlt : k < l.length := by omega
    have hst := wireL_take l k hlt
    have hle := wireL_le l (k + 1)
    rw [hst] at hle
    simp only [List.length_append, List.length_singleton, bytes_length] at hle
    refine CW.skip ?_
    refine Ends.next ?_
    refine CW.seq ?_
    refine CW.block ?_
    refine CW.seq ?_
    refine CW.region ?_
    refine WL.elem ty23 (h.keep hbw) rfl rfl rfl rfl (by omega) (v := sv l[k]) (by simp [hlt]) (fun _ => ?_)
    refine WL.v (Val.assign rfl rfl) ?_ -- d5
    refine WL.nil ?_
    refine Ends.next ?_
    refine CW.region ?_
    refine WL.v (Val.move rfl rfl) ?_ -- d12
    refine WL.v (Val.move rfl rfl) ?_ -- d13
    refine WL.v (Val.lenStr rfl Try.underlying9 rfl) ?_ -- d14
    refine WL.v (Val.convI rfl Try.underlying3 Try.underlying5 rfl ((UInt8.ofNat l[k].size).toNat : Int) (wrapU8 _)) ?_
    refine WL.build1 ty25 rfl rfl rfl ?_
    refine WL.apB (UInt8.ofNat l[k].size) hown rfl rfl rfl (by omega) (by omega) (fun v1 w2 h1 g1 _ => ?_)
    have hb1 := hown.below g1 (by omega)
    refine WL.v (Val.move rfl rfl) ?_ -- d18
    refine WL.apS h1 rfl rfl rfl (by simp; omega) (by have := hb1.size; omega) (fun v2 w3 h2 g2 => ?_)
    have hb2 := h1.below g2 (by have := hb1.size; omega)
    refine WL.v (Val.assign rfl rfl) ?_ -- d3
    refine WL.nil ?_
    refine Ends.blkn ?_
    refine Ends.next ?_
    refine CW.region ?_
    refine WL.v (Val.add rfl rfl rfl _ (IntWalk.i64_in _ (by omega))) ?_ -- d20
    refine WL.v (Val.move rfl rfl) ?_ -- d8
    refine WL.nil ?_
    exact Ends.round (k + 1, v2) (by simp only; omega) ⟨rfl, rfl, rfl, rfl, trivial⟩ ⟨hlt, by rw [hst]; exact h2, (hbw.trans hb1).trans hb2⟩
  · -- no
    have hkl : k = l.length := by omega
    subst hkl
    rw [List.take_length] at hown
    refine CW.exit ?_
    refine Ends.seqx ?_
    refine Ends.seqx ?_
    refine Ends.blke ?_
    refine Ends.next ?_
    refine CW.seq ?_
    refine CW.region ?_
    refine WL.v (Val.move rfl rfl) ?_ -- d21
    refine WL.build1 ty25 rfl rfl rfl ?_
    refine WL.apB 0 hown rfl rfl rfl (by omega) (by omega) (fun v1 w2 h1 g1 _ => ?_)
    have hb1 := hown.below g1 (by omega)
    refine WL.v (Val.assign rfl rfl) ?_ -- d2
    refine WL.nil ?_
    refine Ends.next ?_
    refine CW.ret ?_
    exact Ends.ret1 rfl rfl ⟨h1, hbw.trans hb1⟩
-- signet/signetref3.Wire
theorem wire41 (v : Value) (l : List ByteArray) (w : World) (h : Nm w v l) (hs : (wireL l).length ≤ 1000000) :
    Runs Try.prog 41 #[v] w fun r w' => OwnB w' w.heap.size r (wireL l ++ [0]) ∧ Below w.heap.size w w' := by
  have hlen : l.length ≤ 1000000 := by rw [wireL_length] at hs; omega
  obtain ⟨A, c, hv, -⟩ := id h
  rw [List.length_map] at hv
  subst hv
  refine enter (N := 28) (args := [_]) Try.func41 rfl rfl (Nat.le_of_ble_eq_true rfl) ?_
  refine CW.seq ?_
  refine CW.region ?_
  refine WL.v (Val.assign rfl rfl) ?_ -- d2
  refine WL.nil ?_
  refine Ends.next ?_
  refine CW.seq ?_
  refine CW.region ?_
  refine WL.v (Val.assign rfl rfl) ?_ -- d3
  refine WL.nil ?_
  refine Ends.next ?_
  refine CW.seq ?_
  refine CW.seq ?_
  refine CW.region ?_
  refine WL.v (Val.assign rfl rfl) ?_ -- d4
  refine WL.nil ?_
  refine Ends.next ?_
  refine CW.block ?_
  refine CW.loop (α := Nat × Value) (fun x => [(0, .slice A l.length c), (3, x.2), (4, .int .i64 x.1)]) (fun x w1 => x.1 ≤ l.length ∧ OwnB w1 w.heap.size x.2 (wireL (l.take x.1)) ∧ Below w.heap.size w w1) (fun x => l.length - x.1) (0, .slice none 0 0) ⟨rfl, rfl, rfl, trivial⟩ ⟨Nat.zero_le _, OwnB.nil _ _, Below.refl _ _⟩ ?_
  rintro ⟨k, b⟩ w1 ⟨hk, hown, hbw⟩
  simp only at hk hown
  have hsz := hbw.size
  refine CW.seq ?_
  refine CW.seq ?_
  refine CW.region ?_
  refine WL.v (Val.move rfl rfl) ?_ -- d5
  refine WL.v (Val.move rfl rfl) ?_ -- d6
  refine WL.v (Val.lenSl rfl Try.underlying23 rfl) ?_ -- d7
  refine WL.v (Val.lss rfl rfl rfl) ?_ -- d8
  refine WL.nil ?_
  refine Ends.next ?_
  refine CW.condD rfl (fun hc0 => ?_) (fun hc0 => ?_)
  · -- yes
    have hlt : k < l.length := by omega
    have hst := wireL_take l k hlt
    have hle := wireL_le l (k + 1)
    rw [hst] at hle
    simp only [List.length_append, List.length_singleton, bytes_length] at hle
    obtain ⟨ad, rfl, hce⟩ := h.at_ hlt
    have hown1 : OwnB w1.drew w.heap.size b (wireL (l.take k)) := hown
    refine CW.skip ?_
    refine Ends.next ?_
    refine CW.seq ?_
    refine CW.block ?_
    refine CW.draw (Below w.heap.size w) hbw.drew ?_
    refine WH.take 0 rfl rfl (Val.move rfl rfl) ?_ -- d11
    refine WH.take 1 rfl rfl (Val.move rfl rfl) ?_ -- d12
    refine WH.take 2 rfl rfl (Val.move rfl rfl) ?_ -- d13
    refine WH.take 3 rfl rfl (Val.indexAddr rfl ty23 rfl rfl (by omega) (by omega)) ?_ -- d14
    refine WH.take 4 rfl rfl (Val.load rfl ty23.plain rfl (fun _ hw => below_cell hw hce)) ?_ -- d15
    refine WH.take 5 rfl rfl (Val.lenStr rfl Try.underlying9 rfl) ?_ -- d16
    refine WH.take 6 rfl rfl (Val.convI rfl Try.underlying3 Try.underlying5 rfl ((UInt8.ofNat l[k].size).toNat : Int) (wrapU8 _)) ?_ -- d17
    refine WH.take 9 rfl rfl (Val.move rfl rfl) ?_ -- d20
    refine WH.take 10 rfl rfl (Val.move rfl rfl) ?_ -- d21
    refine WH.take 11 rfl rfl (Val.indexAddr rfl ty23 rfl rfl (by omega) (by omega)) ?_ -- d22
    refine WH.take 12 rfl rfl (Val.load rfl ty23.plain rfl (fun _ hw => below_cell hw hce)) ?_ -- d23
    refine WH.step 7 rfl ?_ -- d18
    refine WL.build1 ty25 rfl rfl rfl ?_
    refine WH.back (hbw.drew.alloc (by simp; omega) _) ?_
    refine WH.step 8 rfl ?_ -- d19
    refine WL.apB (w := w1.drew) (UInt8.ofNat l[k].size) hown1 rfl rfl rfl (by omega) (by simp; omega) (fun v1 w2 h1 g1 _ => ?_)
    have hb1 := hown1.below g1 (by simp; omega)
    refine WH.back (hbw.drew.trans hb1) ?_
    refine WH.step 13 rfl ?_ -- d24
    refine WL.apS h1 rfl rfl rfl (by simp; omega) (by have := hb1.size; simp at this; omega) (fun v2 w3 h2 g2 => ?_)
    have hb2 := h1.below g2 (by have := hb1.size; simp at this; omega)
    refine WH.back ((hbw.drew.trans hb1).trans hb2) ?_
    refine WH.take 14 rfl rfl (Val.assign rfl rfl) ?_ -- d3
    refine WH.done ?_
    refine Ends.blkn ?_
    refine Ends.next ?_
    refine CW.region ?_
    refine WL.v (Val.move rfl rfl) ?_ -- d9
    refine WL.v (Val.add rfl rfl rfl _ (IntWalk.i64_in _ (by omega))) ?_ -- d10
    refine WL.v (Val.assign rfl rfl) ?_ -- d4
    refine WL.nil ?_
    exact Ends.round (k + 1, v2) (by simp only; omega) ⟨rfl, rfl, rfl, trivial⟩ ⟨hlt, by rw [hst]; exact h2, (hbw.drew.trans hb1).trans hb2⟩
  · -- no
    have hkl : k = l.length := by omega
    subst hkl
    rw [List.take_length] at hown
    refine CW.exit ?_
    refine Ends.seqx ?_
    refine Ends.seqx ?_
    refine Ends.blke ?_
    refine Ends.next ?_
    refine CW.seq ?_
    refine CW.region ?_
    refine WL.v (Val.move rfl rfl) ?_ -- d25
    refine WL.build1 ty25 rfl rfl rfl ?_
    refine WL.apB 0 hown rfl rfl rfl (by omega) (by omega) (fun v1 w2 h1 g1 _ => ?_)
    have hb1 := hown.below g1 (by omega)
    refine WL.v (Val.assign rfl rfl) ?_ -- d2
    refine WL.nil ?_
    refine Ends.next ?_
    refine CW.ret ?_
    exact Ends.ret1 rfl rfl ⟨h1, hbw.trans hb1⟩
-- hook not used: draw4
end Go.Proofs.Ytjdgckamjgldmaa
