/- Walks: the reference's bytes of settings. -/
import Derived.Test.YtjdgckamjgldmaaW27
namespace Go.Proofs.Ytjdgckamjgldmaa
open Go.RowKit Go.Eng

theorem times_get (c : Cf) (i : Nat) (h : i < 8) : ((timeL c).map fun n => Value.int .u32 (n : Nat))[i]? = some (.int .u32 ((timeL c).getD i 0 : Nat)) := by
  have : i < (timeL c).length := h
  simp [List.getD_eq_getElem?_getD, this]
-- signet/signetref10.Bytes
theorem bytes20 (v va vs : Value) (c : Cf) (w : World) (h : CfV w v va vs c) (hw : (wireL c.apex).length ≤ 100000) (hsl : c.salt.length ≤ 100000) : Runs Try.prog 20 #[v] w fun r w' => OwnB w' w.heap.size r (bytesC c) ∧ Below w.heap.size w w' := by
  obtain ⟨rfl, ha, hs, hok⟩ := h
  obtain ⟨Aa, ca, hva, -⟩ := id ha
  rw [List.length_map] at hva
  subst hva
  obtain ⟨As, cs, hvs, -⟩ := id hs
  rw [List.length_map] at hvs
  subst hvs
  refine enter (N := 62) (args := [_]) Try.func20 rfl rfl (Nat.le_of_ble_eq_true rfl) ?_
  refine CW.seq ?_
  refine CW.region ?_
  refine WL.boxS _ rfl rfl (cfL_cells _ _ c) (fun g w1 hB1 hg1 hb1 hz1 => ?_)
  have ha1 := ha.keep hb1
  have hs1 := hs.keep hb1
  refine WL.v (Val.assign rfl rfl) ?_ -- d2
  refine WL.nil ?_
  refine Ends.next ?_
  refine CW.seq ?_
  refine CW.region ?_
  refine WL.v (Val.fldA 0 rfl rfl (fun _ => by kernel_rfl)) ?_ -- d6
  refine WL.v (Val.loadF rfl rfl pl23 (at_ (by assumption)) rfl) ?_ -- d7
  refine WL.call bodied41 rfl rfl (wire41 _ _ _ ha1 (by omega)) ?_
  rintro r2 w2 ⟨hr2, hb2⟩
  have hB2 := hB1.keep hb2
  have hs2 := hs1.keep hb2
  refine WL.v (Val.assign rfl rfl) ?_ -- d3
  refine WL.nil ?_
  refine Ends.next ?_
  refine CW.seq ?_
  refine CW.region ?_
  refine WL.v (Val.fldA 1 rfl rfl (fun _ => by kernel_rfl)) ?_ -- d9
  refine WL.v (Val.loadF rfl rfl pl24 (at_ (by assumption)) rfl) ?_ -- d10
  refine WL.v (Val.fldA 2 rfl rfl (fun _ => by kernel_rfl)) ?_ -- d11
  refine WL.v (Val.loadF rfl rfl pl24 (at_ (by assumption)) rfl) ?_ -- d12
  refine WL.v (Val.fldA 3 rfl rfl (fun _ => by kernel_rfl)) ?_ -- d13
  refine WL.v (Val.loadF rfl rfl pl24 (at_ (by assumption)) rfl) ?_ -- d14
  refine WL.v (Val.fldA 4 rfl rfl (fun _ => by kernel_rfl)) ?_ -- d15
  refine WL.v (Val.loadF rfl rfl pl24 (at_ (by assumption)) rfl) ?_ -- d16
  refine WL.v (Val.fldA 5 rfl rfl (fun _ => by kernel_rfl)) ?_ -- d17
  refine WL.v (Val.loadF rfl rfl pl24 (at_ (by assumption)) rfl) ?_ -- d18
  refine WL.v (Val.fldA 6 rfl rfl (fun _ => by kernel_rfl)) ?_ -- d19
  refine WL.v (Val.loadF rfl rfl pl24 (at_ (by assumption)) rfl) ?_ -- d20
  refine WL.v (Val.fldA 7 rfl rfl (fun _ => by kernel_rfl)) ?_ -- d21
  refine WL.v (Val.loadF rfl rfl pl24 (at_ (by assumption)) rfl) ?_ -- d22
  refine WL.v (Val.fldA 8 rfl rfl (fun _ => by kernel_rfl)) ?_ -- d23
  refine WL.v (Val.loadF rfl rfl pl24 (at_ (by assumption)) rfl) ?_ -- d24
  refine WL.buildX (l := [_, _, _, _, _, _, _, _]) (vs := ((timeL c).map fun n => Value.int .u32 (n : Nat))) ty66 rfl rfl (by intro v hv; simp at hv; obtain ⟨n, _, rfl⟩ := hv; rfl) (by decide) (by decide) (fun g2 w3 hG3 hg2 hb3 _ => ?_)
  have hB3 := hB2.keep hb3
  have hs3 := hs2.keep hb3
  have hr3 := hr2.keep hb3
  have hne3 : r2.ownBlock ≠ some g := own_ne hr2 (by have := hB1.lt; omega)
  have hne3' : r2.ownBlock ≠ some g2 := own_lt hr2 (by omega)
  have hb13 := hb2.trans (hb3.mono hb2.size)
  refine WL.v (Val.assign rfl rfl) ?_ -- d4
  refine WL.nil ?_
  refine Ends.next ?_
  refine CW.seq ?_
  refine CW.seq ?_
  refine CW.region ?_
  refine WL.v (Val.assign rfl rfl) ?_ -- d5
  refine WL.nil ?_
  refine Ends.next ?_
  refine CW.block ?_
  refine CW.loop (α := Value × Nat) (fun x => [(1, .pointer (some ⟨g, 0, none⟩)), (3, x.1), (4, .slice (some ⟨g2, 0, none⟩) 8 8), (5, .int .i64 x.2)]) (fun x w4 => x.2 ≤ 8 ∧ OwnB w4 w1.heap.size x.1 (wireL c.apex ++ [0] ++ ((timeL c).take x.2).flatMap be4) ∧ Blk w4 g 28 (cfL (.slice Aa c.apex.length ca) (.slice As c.salt.length cs) c) ∧ Blk w4 g2 24 ((timeL c).map fun n => Value.int .u32 (n : Nat)) ∧ x.1.ownBlock ≠ some g ∧ x.1.ownBlock ≠ some g2 ∧ Below w1.heap.size w1 w4) (fun x => 8 - x.2) (r2, 0) ⟨rfl, rfl, rfl, rfl, trivial⟩ ⟨Nat.zero_le _, by simpa using hr3, hB3, hG3, hne3, hne3', hb13⟩ ?_
  rintro ⟨b, i⟩ w4 ⟨hi, hown, hB4, hG4, hne4, hne', hb4⟩
  dsimp only at hi hown hne4 hne' ⊢
  have htl := time_len c i
  have hwl : (wireL c.apex ++ [0]).length = (wireL c.apex).length + 1 := by simp
  refine CW.seq ?_
  refine CW.seq ?_
  refine CW.region ?_
  refine WL.v (Val.move rfl rfl) ?_ -- d26
  refine WL.v (Val.move rfl rfl) ?_ -- d27
  refine WL.v (Val.lenSl rfl Try.underlying66 rfl) ?_ -- d28
  refine WL.v (Val.lss rfl rfl rfl) ?_ -- d29
  refine WL.nil ?_
  refine Ends.next ?_
  refine CW.condD rfl (fun hc0 => ?_) (fun hc0 => ?_)
  · -- yes
    have hlt : i < 8 := by omega
    refine CW.skip ?_
    refine Ends.next ?_
    refine CW.seq ?_
    refine CW.block ?_
    refine CW.region ?_
    refine WL.v (Val.move rfl rfl) ?_ -- d32
    refine WL.v (Val.move rfl rfl) ?_ -- d33
    refine WL.v (Val.move rfl rfl) ?_ -- d34
    refine WL.elem ty66 (hG4.sl rfl) rfl rfl rfl rfl (by omega) (v := .int .u32 (((timeL c).getD i 0) : Nat)) (times_get c i hlt) (fun _ => ?_)
    refine WL.call bodied50 rfl rfl (put50 _ _ ((timeL c).getD i 0) 4 w1.heap.size _ hown hb4.size (by first | (simp only [List.length_append, List.length_cons, List.length_nil] at *; omega) | (simp only [List.length_append, List.length_cons, List.length_nil, be2] at *; omega) | (simp only [List.length_append, List.length_cons, List.length_nil, be4] at *; omega) | (simp only [List.length_append, List.length_cons, List.length_nil, be2, be4] at *; omega)) (by decide)) ?_
    rintro v6 w6 ⟨hown6, hg6, hat6⟩
    rw [putL_4] at hown6
    have hB6 := hB4.grown hg6 (fun h => hne4 h.symm)
    have hbd6 : Below w1.heap.size w1 w6 := hb4.trans (hown.below hg6 hb4.size)
    have hG6 := hG4.grown hg6 (fun h => hne' h.symm)
    refine WL.v (Val.assign rfl rfl) ?_ -- d3
    refine WL.nil ?_
    refine Ends.blkn ?_
    refine Ends.next ?_
    refine CW.region ?_
    refine WL.v (Val.move rfl rfl) ?_ -- d30
    refine WL.v (Val.add rfl rfl rfl ((i + 1 : Nat) : Int) (i64_eq (by omega) (by omega))) ?_
    refine WL.v (Val.assign rfl rfl) ?_ -- d5
    refine WL.nil ?_
    exact Ends.round (v6, i + 1) (by simp only; omega) ⟨rfl, rfl, rfl, rfl, trivial⟩ ⟨hlt, by rw [time_snoc c i hlt, ← List.append_assoc]; exact hown6, hB6, hG6, apart_own hB4.lt hne4 hat6, apart_own hG4.lt hne' hat6, hbd6⟩
  · -- no
    obtain rfl : i = 8 := by omega
    have hs4 : Bs w4 (.slice As c.salt.length cs) c.salt := hs1.keep hb4
    have htk : (timeL c).take 8 = timeL c := rfl
    rw [htk] at hown htl
    refine CW.exit ?_
    refine Ends.seqx ?_
    refine Ends.seqx ?_
    refine Ends.blke ?_
    refine Ends.next ?_
    refine CW.seq ?_
    refine CW.draw (fun w' => Blk w' g 28 (cfL (.slice Aa c.apex.length ca) (.slice As c.salt.length cs) c)) hB4 ?_
    refine WH.take 0 rfl rfl (Val.move rfl rfl) ?_ -- d38
    refine WH.take 1 rfl rfl (Val.fldA 9 rfl rfl (fun _ => by kernel_rfl)) ?_ -- d39
    refine WH.take 2 rfl rfl (Val.loadF rfl rfl pl25 (fun _ h => h) rfl) ?_ -- d40
    refine WH.take 3 rfl rfl (Val.lenSl rfl Try.underlying25 rfl) ?_ -- d41
    refine WH.take 4 rfl rfl (Val.convI rfl Try.underlying3 Try.underlying5 rfl _ (wrapU8 _)) ?_ -- d42
    refine WH.take 7 rfl rfl (Val.fldA 9 rfl rfl (fun _ => by kernel_rfl)) ?_ -- d45
    refine WH.take 8 rfl rfl (Val.loadF rfl rfl pl25 (fun _ h => h) rfl) ?_ -- d46
    refine WH.step 5 rfl ?_ -- d43
    refine WL.buildB (l := [_]) [UInt8.ofNat c.salt.length] rfl rfl (by decide) (by decide) (fun u w5 hu5 hb5 _ => ?_)
    have hB5 : Blk w5 g 28 (cfL (.slice Aa c.apex.length ca) (.slice As c.salt.length cs) c) := (Blk.drew hB4).keep hb5
    have hs5 : Bs w5 (.slice As c.salt.length cs) c.salt := (show Bs w4.drew _ _ from hs4).keep hb5
    have hown5 : OwnB w5 w1.heap.size b _ := (show OwnB w4.drew _ _ _ from hown).keep hb5
    have hbd5 : Below w1.heap.size w1 w5 := hb4.drew.trans (hb5.mono hb4.size)
    refine WH.back hB5 ?_
    refine WH.step 6 rfl ?_ -- d44
    refine WL.apL hown5 hu5 rfl rfl rfl (by first | (simp only [List.length_append, List.length_cons, List.length_nil] at *; omega) | (simp only [List.length_append, List.length_cons, List.length_nil, be2] at *; omega) | (simp only [List.length_append, List.length_cons, List.length_nil, be4] at *; omega) | (simp only [List.length_append, List.length_cons, List.length_nil, be2, be4] at *; omega)) hbd5.size (fun v6 w6 hown6 hg6 hat6 => ?_)
    have hB6 := hB5.grown hg6 (fun h => hne4 h.symm)
    have hbd6 : Below w1.heap.size w1 w6 := hbd5.trans (hown5.below hg6 hbd5.size)
    have hs6 : Bs w6 (.slice As c.salt.length cs) c.salt := hs1.keep hbd6
    have hne6 := apart_own hB5.lt hne4 hat6
    refine WH.back hB6 ?_
    refine WH.step 9 rfl ?_ -- d47
    refine WL.apL hown6 hs6 rfl rfl rfl (by first | (simp only [List.length_append, List.length_cons, List.length_nil] at *; omega) | (simp only [List.length_append, List.length_cons, List.length_nil, be2] at *; omega) | (simp only [List.length_append, List.length_cons, List.length_nil, be4] at *; omega) | (simp only [List.length_append, List.length_cons, List.length_nil, be2, be4] at *; omega)) hbd6.size (fun v7 w7 hown7 hg7 hat7 => ?_)
    have hB7 := hB6.grown hg7 (fun h => hne6 h.symm)
    have hbd7 : Below w1.heap.size w1 w7 := hbd6.trans (hown6.below hg7 hbd6.size)
    have hne7 := apart_own hB6.lt hne6 hat7
    refine WH.back hB7 ?_
    refine WH.take 10 rfl rfl (Val.assign rfl rfl) ?_ -- d3
    refine WH.done ?_
    refine Ends.next ?_
    refine CW.seq ?_
    refine CW.draw (fun w' => Blk w' g 28 (cfL (.slice Aa c.apex.length ca) (.slice As c.salt.length cs) c)) (Blk.drew hB7) ?_
    have hBd : Blk w7.drew g 28 (cfL (.slice Aa c.apex.length ca) (.slice As c.salt.length cs) c) := hB7
    have hownd : OwnB w7.drew w1.heap.size v7 _ := hown7
    have hbdd : Below w1.heap.size w1 w7.drew := hbd7.drew
    have hokit := hok.it
    have hoksz := hok.sz
    refine WH.take 0 rfl rfl (Val.move rfl rfl) ?_ -- d48
    refine WH.take 1 rfl rfl (Val.fldA 10 rfl rfl (fun _ => by kernel_rfl)) ?_ -- d49
    refine WH.take 2 rfl rfl (Val.loadF rfl rfl pl26 (fun _ h => h) rfl) ?_ -- d50
    refine WH.take 3 rfl rfl (Val.convI rfl Try.underlying26 Try.underlying24 rfl _ (IntWalk.u32_in _ (by omega))) ?_ -- d51
    refine WH.take 5 rfl rfl (Val.fldA 11 rfl rfl (fun _ => by kernel_rfl)) ?_ -- d53
    refine WH.take 6 rfl rfl (Val.loadF rfl rfl pl3 (fun _ h => h) rfl) ?_ -- d54
    refine WH.take 7 rfl rfl (Val.convI rfl Try.underlying3 Try.underlying5 rfl _ (wrapHB c.h)) ?_ -- d55
    refine WH.take 10 rfl rfl (Val.fldA 12 rfl rfl (fun _ => by kernel_rfl)) ?_ -- d58
    refine WH.take 11 rfl rfl (Val.loadF rfl rfl pl26 (fun _ h => h) rfl) ?_ -- d59
    refine WH.take 12 rfl rfl (Val.convI rfl Try.underlying26 Try.underlying24 rfl _ (IntWalk.u32_in _ (by omega))) ?_ -- d60
    refine WH.forkX (α := Value × Nat) (f' := 3) (L' := #[true, true, true, true, true, true, true, true, true, false, true, true, true, false, false]) (fun x => [(1, .pointer (some ⟨g, 0, none⟩)), (52, x.1), (56, .slice (some ⟨x.2, 0, none⟩) 1 1), (60, .int .u32 (c.sz : Nat))]) (fun x w' => OwnB w' w1.heap.size x.1 (wireL c.apex ++ [0] ++ (timeL c).flatMap be4 ++ [UInt8.ofNat c.salt.length] ++ c.salt ++ be2 c.it) ∧ Blk w' g 28 (cfL (.slice Aa c.apex.length ca) (.slice As c.salt.length cs) c) ∧ Blk w' x.2 5 [bv (hB c.h)] ∧ x.1.ownBlock ≠ some g ∧ Below w1.heap.size w1 w') ?_ (fun tail => ?_)
    rotate_left
    · -- either order
      refine WH.step2 4 8 rfl rfl (by kernel_rfl) ?_ ?_
      · -- 4, then 8
        refine WL.call bodied50 rfl rfl (put50 _ _ c.it 2 w1.heap.size _ hownd hbdd.size (by first | (simp only [List.length_append, List.length_cons, List.length_nil] at *; omega) | (simp only [List.length_append, List.length_cons, List.length_nil, be2] at *; omega) | (simp only [List.length_append, List.length_cons, List.length_nil, be4] at *; omega) | (simp only [List.length_append, List.length_cons, List.length_nil, be2, be4] at *; omega)) (by decide)) ?_
        rintro v8 w8 ⟨hown8, hg8, hat8⟩
        rw [putL_2] at hown8
        have hB8 := hBd.grown hg8 (fun h => hne7 h.symm)
        have hbd8 : Below w1.heap.size w1 w8 := hbdd.trans (hownd.below hg8 hbdd.size)
        have hne8 := apart_own hBd.lt hne7 hat8
        refine WH.back hB8 ?_
        refine WH.step 8 rfl ?_
        refine WL.buildX (l := [_]) (vs := [bv (hB c.h)]) ty25 rfl rfl (by intro v hv; simp at hv; subst hv; rfl) (by decide) (by decide) (fun g9 w9 hG9 hg9 hb9 _ => ?_)
        refine WH.back (hB8.keep hb9) ?_
        exact WH.join (tail (v8, g9) _ ⟨hown8.keep hb9, hB8.keep hb9, hG9, hne8, hbd8.trans (hb9.mono hbd8.size)⟩) (by kernel_rfl) ⟨rfl, rfl, rfl, rfl, trivial⟩
      · -- 8, then 4
        refine WL.buildX (l := [_]) (vs := [bv (hB c.h)]) ty25 rfl rfl (by intro v hv; simp at hv; subst hv; rfl) (by decide) (by decide) (fun g8 w8 hG8 hg8 hb8 _ => ?_)
        have hBe := hBd.keep hb8
        have howne := hownd.keep hb8
        have hbde := hbdd.trans (hb8.mono hbdd.size)
        have hneg : v7.ownBlock ≠ some g8 := own_lt hownd (by omega)
        refine WH.back hBe ?_
        refine WH.step 4 rfl ?_
        refine WL.call bodied50 rfl rfl (put50 _ _ c.it 2 w1.heap.size _ howne hbde.size (by first | (simp only [List.length_append, List.length_cons, List.length_nil] at *; omega) | (simp only [List.length_append, List.length_cons, List.length_nil, be2] at *; omega) | (simp only [List.length_append, List.length_cons, List.length_nil, be4] at *; omega) | (simp only [List.length_append, List.length_cons, List.length_nil, be2, be4] at *; omega)) (by decide)) ?_
        rintro v9 w9 ⟨hown9, hg9, hat9⟩
        rw [putL_2] at hown9
        have hB9 := hBe.grown hg9 (fun h => hne7 h.symm)
        have hbd9 : Below w1.heap.size w1 w9 := hbde.trans (howne.below hg9 hbde.size)
        refine WH.back hB9 ?_
        exact WH.join (tail (v9, g8) _ ⟨hown9, hB9, hG8.grown hg9 (fun h => hneg h.symm), apart_own hBe.lt hne7 hat9, hbd9⟩) (by kernel_rfl) ⟨rfl, rfl, rfl, rfl, trivial⟩
    rintro ⟨v9, g9⟩ w9 ⟨hown9, hB9, hG9, hne8, hbd9⟩
    dsimp only at hown9 hG9 hne8 ⊢
    have hu9 : Bs w9 (.slice (some ⟨g9, 0, none⟩) 1 1) [hB c.h] := hG9.sl rfl
    refine WH.step 9 rfl ?_ -- d57
    refine WL.apL hown9 hu9 rfl rfl rfl (by first | (simp only [List.length_append, List.length_cons, List.length_nil] at *; omega) | (simp only [List.length_append, List.length_cons, List.length_nil, be2] at *; omega) | (simp only [List.length_append, List.length_cons, List.length_nil, be4] at *; omega) | (simp only [List.length_append, List.length_cons, List.length_nil, be2, be4] at *; omega)) hbd9.size (fun v10 w10 hown10 hg10 hat10 => ?_)
    have hB10 := hB9.grown hg10 (fun h => hne8 h.symm)
    have hbd10 : Below w1.heap.size w1 w10 := hbd9.trans (hown9.below hg10 hbd9.size)
    have hne10 := apart_own hB9.lt hne8 hat10
    refine WH.back hB10 ?_
    refine WH.step 13 rfl ?_ -- d61
    refine WL.call bodied50 rfl rfl (put50 _ _ c.sz 2 w1.heap.size _ hown10 hbd10.size (by first | (simp only [List.length_append, List.length_cons, List.length_nil] at *; omega) | (simp only [List.length_append, List.length_cons, List.length_nil, be2] at *; omega) | (simp only [List.length_append, List.length_cons, List.length_nil, be4] at *; omega) | (simp only [List.length_append, List.length_cons, List.length_nil, be2, be4] at *; omega)) (by decide)) ?_
    rintro v11 w11 ⟨hown11, hg11, hat11⟩
    rw [putL_2] at hown11
    have hB11 := hB10.grown hg11 (fun h => hne10 h.symm)
    have hbd11 : Below w1.heap.size w1 w11 := hbd10.trans (hown10.below hg11 hbd10.size)
    refine WH.back hB11 ?_
    refine WH.take 14 rfl rfl (Val.assign rfl rfl) ?_ -- d2
    refine WH.done ?_
    refine Ends.next ?_
    refine CW.ret ?_
    exact Ends.ret1 rfl rfl ⟨own_lower (by have := hb1.size; omega) (by simpa [bytesC, restC] using hown11), hb1.trans (hbd11.mono hb1.size)⟩
end Go.Proofs.Ytjdgckamjgldmaa
