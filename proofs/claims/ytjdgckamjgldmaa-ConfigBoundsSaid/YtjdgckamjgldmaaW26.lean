/- Walks: settings, small functions and config.Check. -/
import Derived.Test.YtjdgckamjgldmaaBaseC
namespace Go.Proofs.Ytjdgckamjgldmaa
open Go.RowKit Go.Eng

-- signet/signetlaw14.light
theorem light15 (v va vs : Value) (c : Cf) (w : World) (h : CfV w v va vs c) : Runs Try.prog 15 #[v] w fun r w' => r = .bool (lightC c) ∧ Below w.heap.size w w' := by
  obtain ⟨rfl, ha, hs, hok⟩ := h
  obtain ⟨Aa, ca, hva, -⟩ := id ha
  rw [List.length_map] at hva
  subst hva
  obtain ⟨As, cs, hvs, -⟩ := id hs
  rw [List.length_map] at hvs
  subst hvs
  refine enter (N := 12) (args := [_]) Try.func15 rfl rfl (Nat.le_of_ble_eq_true rfl) ?_
  refine CW.seq ?_
  refine CW.region ?_
  refine WL.boxS _ rfl rfl (cfL_cells _ _ c) (fun g w1 hB1 hg1 hb1 hz1 => ?_)
  have ha1 := ha.keep hb1
  have hs1 := hs.keep hb1
  refine WL.v (Val.assign rfl rfl) ?_ -- d2
  refine WL.nil ?_
  refine Ends.next ?_
  refine CW.seq ?_
  refine CW.region ?_
  refine WL.v (Val.fldA 0 rfl rfl (fun _ => by kernel_rfl)) ?_ -- d3
  refine WL.v (Val.loadF rfl rfl pl23 (at_ (by assumption)) rfl) ?_ -- d4
  refine WL.call bodied34 rfl rfl (light34 _ _ _ ha1) ?_
  rintro _ _ ⟨rfl, rfl⟩
  refine WL.v (Val.move rfl rfl) ?_ -- d6
  refine WL.and (j := 3) (seg := [_, _, _, _]) (r := decide ((c.salt.length : Int) ≤ 300)) rfl rfl rfl rfl (fun hb11 HK11 => ?hT1) ?_
  case hT1 =>
    refine WL.yes rfl rfl rfl hb11 ?_
    refine WL.v (Val.fldA 9 rfl rfl (fun _ => by kernel_rfl)) ?_ -- d7
    refine WL.yes rfl rfl rfl hb11 ?_
    refine WL.v (Val.loadF rfl rfl pl25 (at_ (by assumption)) rfl) ?_ -- d8
    refine WL.yes rfl rfl rfl hb11 ?_
    refine WL.v (Val.lenSl rfl Try.underlying25 rfl) ?_ -- d9
    refine WL.yes rfl rfl rfl hb11 ?_
    refine WL.v (Val.leq rfl rfl rfl) ?_ -- d10
    refine WL.v (Val.pickT rfl rfl hb11 rfl) ?_
    refine WL.forget rfl ?_; refine WL.forget rfl ?_; refine WL.forget rfl ?_; refine WL.forget rfl ?_
    exact HK11
  refine WL.v (Val.assign rfl rfl) ?_ -- d2
  refine WL.nil ?_
  refine Ends.next ?_
  refine CW.ret ?_
  exact Ends.ret1 rfl rfl ⟨congrArg Value.bool (by rw [lightC]; congr 1; exact decide_eq_decide.2 (by omega)), hb1⟩
-- signet/signethelp.Place
theorem place24 (k n : Int) (w : World) (hn : 0 < n ∧ n ≤ 1000) : Runs Try.prog 24 #[.int .i64 k, .int .i64 n] w fun r w' => r = .int .i64 (k % n) ∧ w' = w := by
  have h1 := Int.tmod_eq_emod (a := k) (b := n)
  have h2 := Int.emod_nonneg k (show n ≠ 0 by omega)
  have h3 := Int.emod_lt_of_pos k hn.1
  have h7 : k.tmod n = k % n ∨ k.tmod n = k % n - n := by
    rw [h1]
    split
    · left; omega
    · right; omega
  have h4 : 0 ≤ k.tmod n → k.tmod n = k % n := fun h => by omega
  have h5 : k.tmod n < 0 → k.tmod n + n = k % n := fun h => by omega
  refine enter (N := 14) (args := [_, _]) Try.func24 rfl rfl (Nat.le_of_ble_eq_true rfl) ?_
  refine CW.seq ?_
  refine CW.region ?_
  refine WL.v (Val.assign rfl rfl) ?_ -- d4
  refine WL.nil ?_
  refine Ends.next ?_
  refine CW.seq ?_
  refine CW.region ?_
  refine WL.v (Val.move rfl rfl) ?_ -- d5
  refine WL.v (Val.move rfl rfl) ?_ -- d6
  refine WL.v (Val.rem rfl rfl rfl (by omega) _ rfl) ?_ -- d7
  refine WL.v (Val.assign rfl rfl) ?_ -- d0
  refine WL.nil ?_
  refine Ends.next ?_
  refine CW.seq ?_
  refine CW.seq ?_
  refine CW.region ?_
  refine WL.v (Val.move rfl rfl) ?_ -- d8
  refine WL.v (Val.lss rfl rfl rfl) ?_ -- d9
  refine WL.nil ?_
  refine Ends.next ?_
  refine CW.condD rfl (fun hc0 => ?_) (fun hc0 => ?_)
  · -- yes
    refine CW.region ?_
    refine WL.v (Val.move rfl rfl) ?_ -- d10
    refine WL.v (Val.move rfl rfl) ?_ -- d11
    refine WL.v (Val.add rfl rfl rfl _ (IntWalk.i64_in _ (by omega))) ?_ -- d12
    refine WL.v (Val.assign rfl rfl) ?_ -- d0
    refine WL.nil ?_
    refine Ends.next ?_
    refine CW.seq ?_
    refine CW.region ?_
    refine WL.v (Val.move rfl rfl) ?_ -- d13
    refine WL.v (Val.assign rfl rfl) ?_ -- d4
    refine WL.nil ?_
    refine Ends.next ?_
    refine CW.ret ?_
    exact Ends.ret1 rfl rfl ⟨congrArg (Value.int .i64) (h5 hc0), rfl⟩
  · -- no
    refine CW.skip ?_
    refine Ends.next ?_
    refine CW.seq ?_
    refine CW.region ?_
    refine WL.v (Val.move rfl rfl) ?_ -- d13
    refine WL.v (Val.assign rfl rfl) ?_ -- d4
    refine WL.nil ?_
    refine Ends.next ?_
    refine CW.ret ?_
    exact Ends.ret1 rfl rfl ⟨congrArg (Value.int .i64) (h4 (by omega)), rfl⟩
-- signet/signetseat.Apex
theorem apex51 (w : World) : Runs Try.prog 51 #[] w fun r w' => ∃ k, r = .slice (some ⟨k, 0, none⟩) 1 1 ∧ Blk w' k 9 [sv ⟨#[101, 120, 97, 109, 112, 108, 101]⟩] ∧ k = w.heap.size ∧ Below w.heap.size w w' := by
  refine enter (N := 2) (args := []) Try.func51 rfl rfl (Nat.le_of_ble_eq_true rfl) ?_
  refine CW.seq ?_
  refine CW.region ?_
  refine WL.v (Val.assign rfl rfl) ?_ -- d0
  refine WL.nil ?_
  refine Ends.next ?_
  refine CW.seq ?_
  refine CW.region ?_
  refine WL.buildX (l := [_]) (vs := [sv ⟨#[101, 120, 97, 109, 112, 108, 101]⟩]) ty23 rfl rfl (by intro v hv; simp at hv; subst hv; rfl) (by decide) (by decide) (fun k w1 hB1 hk1 hb1 _ => ?_)
  refine WL.v (Val.assign rfl rfl) ?_ -- d0
  refine WL.nil ?_
  refine Ends.next ?_
  refine CW.ret ?_
  exact Ends.ret1 rfl rfl ⟨k, rfl, hB1, hk1, hb1⟩
def ptrs (g : Nat) : List Value := [.pointer (some ⟨g, 1, none⟩), .pointer (some ⟨g, 2, none⟩), .pointer (some ⟨g, 3, none⟩), .pointer (some ⟨g, 4, none⟩), .pointer (some ⟨g, 5, none⟩), .pointer (some ⟨g, 6, none⟩), .pointer (some ⟨g, 7, none⟩), .pointer (some ⟨g, 8, none⟩)]
theorem ptrs_get (g i : Nat) (h : i < 8) : (ptrs g)[i]? = some (.pointer (some ⟨g, i + 1, none⟩)) := by
  have : i = 0 ∨ i = 1 ∨ i = 2 ∨ i = 3 ∨ i = 4 ∨ i = 5 ∨ i = 6 ∨ i = 7 := by omega
  rcases this with rfl | rfl | rfl | rfl | rfl | rfl | rfl | rfl <;> rfl
-- signet/config.times
theorem times49 (g : Nat) (w : World) : Runs Try.prog 49 #[.pointer (some ⟨g, 0, none⟩)] w fun r w' => ∃ g2, r = .slice (some ⟨g2, 0, none⟩) 8 8 ∧ Blk w' g2 70 (ptrs g) ∧ g2 = w.heap.size ∧ Below w.heap.size w w' := by
  refine enter (N := 28) (args := [_]) Try.func49 rfl rfl (Nat.le_of_ble_eq_true rfl) ?_
  refine CW.seq ?_
  refine CW.region ?_
  refine WL.v (Val.assign rfl rfl) ?_ -- d2
  refine WL.nil ?_
  refine Ends.next ?_
  refine CW.seq ?_
  refine CW.draw (fun _ => True) trivial ?_
  refine WH.take 0 rfl rfl (Val.move rfl rfl) ?_ -- d3
  refine WH.take 1 rfl rfl (Val.nilCheck rfl rfl) ?_ -- d4
  refine WH.take 2 rfl rfl (Val.fldA 1 rfl rfl (fun _ => by kernel_rfl)) ?_ -- d5
  refine WH.take 3 rfl rfl (Val.move rfl rfl) ?_ -- d6
  refine WH.take 4 rfl rfl (Val.nilCheck rfl rfl) ?_ -- d7
  refine WH.take 5 rfl rfl (Val.fldA 2 rfl rfl (fun _ => by kernel_rfl)) ?_ -- d8
  refine WH.take 6 rfl rfl (Val.move rfl rfl) ?_ -- d9
  refine WH.take 7 rfl rfl (Val.nilCheck rfl rfl) ?_ -- d10
  refine WH.take 8 rfl rfl (Val.fldA 3 rfl rfl (fun _ => by kernel_rfl)) ?_ -- d11
  refine WH.take 9 rfl rfl (Val.move rfl rfl) ?_ -- d12
  refine WH.take 10 rfl rfl (Val.nilCheck rfl rfl) ?_ -- d13
  refine WH.take 11 rfl rfl (Val.fldA 4 rfl rfl (fun _ => by kernel_rfl)) ?_ -- d14
  refine WH.take 12 rfl rfl (Val.move rfl rfl) ?_ -- d15
  refine WH.take 13 rfl rfl (Val.nilCheck rfl rfl) ?_ -- d16
  refine WH.take 14 rfl rfl (Val.fldA 5 rfl rfl (fun _ => by kernel_rfl)) ?_ -- d17
  refine WH.take 15 rfl rfl (Val.move rfl rfl) ?_ -- d18
  refine WH.take 16 rfl rfl (Val.nilCheck rfl rfl) ?_ -- d19
  refine WH.take 17 rfl rfl (Val.fldA 6 rfl rfl (fun _ => by kernel_rfl)) ?_ -- d20
  refine WH.take 18 rfl rfl (Val.move rfl rfl) ?_ -- d21
  refine WH.take 19 rfl rfl (Val.nilCheck rfl rfl) ?_ -- d22
  refine WH.take 20 rfl rfl (Val.fldA 7 rfl rfl (fun _ => by kernel_rfl)) ?_ -- d23
  refine WH.take 21 rfl rfl (Val.move rfl rfl) ?_ -- d24
  refine WH.take 22 rfl rfl (Val.nilCheck rfl rfl) ?_ -- d25
  refine WH.take 23 rfl rfl (Val.fldA 8 rfl rfl (fun _ => by kernel_rfl)) ?_ -- d26
  refine WH.step 24 rfl ?_ -- d27
  refine WL.buildX (l := [_, _, _, _, _, _, _, _]) (vs := ptrs g) ty67 rfl rfl (by intro v hv; simp [ptrs] at hv; rcases hv with rfl | rfl | rfl | rfl | rfl | rfl | rfl | rfl <;> rfl) (by decide) (by decide) (fun g2 w2 hB2 hg2 hb2 _ => ?_)
  refine WH.back trivial ?_
  refine WH.take 25 rfl rfl (Val.assign rfl rfl) ?_ -- d2
  refine WH.done ?_
  refine Ends.next ?_
  refine CW.ret ?_
  exact Ends.ret1 rfl rfl ⟨g2, rfl, hB2, hg2, ((Below.refl _ _).drew).trans hb2⟩
theorem grown_step {w w1 w2 : World} {r r1 : Option Nat} (h1 : w.grownBy w1 r) (h2 : w1.grownBy w2 r1) (hat : r1 = r ∨ ∃ g, r1 = some g ∧ w.heap.size ≤ g) : w.grownBy w2 r := by
  refine ⟨h2.os.trans h1.os, h2.tape.trans h1.tape, h2.output.trans h1.output, Nat.le_trans h1.size h2.size, fun k hk hne => ?_⟩
  have hs := h1.size
  refine (h2.block k (by omega) ?_).trans (h1.block k hk hne)
  rcases hat with rfl | ⟨g, rfl, hg⟩
  · exact hne
  · intro he
    injection he with he
    omega
theorem at_step {w : World} {a b c : Option Nat} {n m : Nat} (h1 : b = a ∨ ∃ g, b = some g ∧ n ≤ g) (h2 : c = b ∨ ∃ g, c = some g ∧ m ≤ g) (hm : n ≤ m) (_hw : w = w) : c = a ∨ ∃ g, c = some g ∧ n ≤ g := by
  rcases h2 with rfl | ⟨g, rfl, hg⟩
  · exact h1
  · exact .inr ⟨g, rfl, by omega⟩
def putL (n : Nat) : Nat → List UInt8
  | 0 => []
  | k + 1 => UInt8.ofNat (n / 256 ^ k) :: putL n k
theorem putL_4 (n : Nat) : putL n 4 = be4 n := by simp [putL, be4]
theorem putL_2 (n : Nat) : putL n 2 = be2 n := by simp [putL, be2]
theorem shr_bytes {n i : Nat} (hi : i ≤ 3) : ¬ ((8 * i : Nat) : Int) < 0 ∧ (n : Int).fdiv (2 ^ (min (((8 * i : Nat) : Int)).toNat IntKind.u32.bits)) = ((n / 256 ^ i : Nat) : Int) := by
  refine ⟨by omega, ?_⟩
  have hb : IntKind.u32.bits = 32 := rfl
  have h2 : (2 : Int) ^ (8 * i) = ((256 ^ i : Nat) : Int) := by
    rw [show (256 : Nat) = 2 ^ 8 from rfl, ← Nat.pow_mul]
    push_cast
    rfl
  rw [hb, Int.toNat_natCast, Nat.min_eq_left (by omega), h2, Int.fdiv_eq_ediv_of_nonneg _ (Int.natCast_nonneg _)]
  exact (Int.natCast_ediv n (256 ^ i)).symm
-- signet/signetref3.Put
theorem put50 (v : Value) (l : List UInt8) (n k base : Nat) (w : World) (h : OwnB w base v l) (hb : base ≤ w.heap.size) (hl : l.length ≤ 1000000) (hk : k ≤ 4) :
    Runs Try.prog 50 #[v, .int .u32 n, .int .i64 k] w fun r w' => OwnB w' base r (l ++ putL n k) ∧ w.grownBy w' v.ownBlock ∧ (r.ownBlock = v.ownBlock ∨ ∃ g, r.ownBlock = some g ∧ w.heap.size ≤ g) := by
  refine enter (N := 23) (args := [_, _, _]) Try.func50 rfl rfl (Nat.le_of_ble_eq_true rfl) ?_
  refine CW.seq ?_
  refine CW.region ?_
  refine WL.v (Val.assign rfl rfl) ?_ -- d6
  refine WL.nil ?_
  refine Ends.next ?_
  refine CW.seq ?_
  refine CW.seq ?_
  refine CW.region ?_
  refine WL.v (Val.move rfl rfl) ?_ -- d8
  refine WL.v (Val.subt rfl rfl rfl ((k : Int) - 1) (i64_eq (by omega) rfl)) ?_
  refine WL.v (Val.assign rfl rfl) ?_ -- d7
  refine WL.nil ?_
  refine Ends.next ?_
  refine CW.block ?_
  refine CW.loop (α := Value × Nat) (fun x => [(0, x.1), (1, .int .u32 n), (7, .int .i64 ((x.2 : Int) - 1))]) (fun x w1 => x.2 ≤ k ∧ (∃ L, OwnB w1 base x.1 L ∧ L ++ putL n x.2 = l ++ putL n k ∧ L.length = l.length + (k - x.2)) ∧ w.grownBy w1 v.ownBlock ∧ (x.1.ownBlock = v.ownBlock ∨ ∃ g, x.1.ownBlock = some g ∧ w.heap.size ≤ g)) (fun x => x.2) (v, k) ⟨rfl, rfl, rfl, trivial⟩ ⟨Nat.le_refl _, ⟨l, h, rfl, by simp⟩, ⟨rfl, rfl, rfl, Nat.le_refl _, fun _ _ _ => rfl⟩, .inl rfl⟩ ?_
  rintro ⟨b, j⟩ w1 ⟨hj, ⟨L, hown, hL, hLl⟩, hgr, hat⟩
  dsimp only at hj hL hLl hown hat ⊢
  have hs1 := hgr.size
  refine CW.seq ?_
  refine CW.seq ?_
  refine CW.region ?_
  refine WL.v (Val.move rfl rfl) ?_ -- d10
  refine WL.v (Val.geq rfl rfl rfl) ?_ -- d11
  refine WL.nil ?_
  refine Ends.next ?_
  refine CW.condD rfl (fun hc0 => ?_) (fun hc0 => ?_)
  · -- yes
    obtain ⟨i, rfl⟩ : ∃ i, j = i + 1 := ⟨j - 1, by omega⟩
    refine CW.skip ?_
    refine Ends.next ?_
    refine CW.seq ?_
    refine CW.block ?_
    refine CW.region ?_
    refine WL.v (Val.move rfl rfl) ?_ -- d14
    refine WL.v (Val.move rfl rfl) ?_ -- d15
    refine WL.v (Val.move rfl rfl) ?_ -- d16
    refine WL.v (Val.mul rfl rfl rfl ((8 * i : Nat) : Int) (i64_eq (by omega) (by omega))) ?_
    refine WL.v (Val.shr rfl rfl rfl _ (shr_bytes (by omega))) ?_
    refine WL.v (Val.convI rfl Try.underlying24 Try.underlying5 rfl _ (wrapU8 _)) ?_
    refine WL.build1 ty25 rfl rfl rfl ?_
    refine WL.apB _ hown rfl rfl rfl (by omega) (by omega) (fun v2 w2 hown2 hg2 hat2 => ?_)
    refine WL.v (Val.assign rfl rfl) ?_ -- d0
    refine WL.nil ?_
    refine Ends.blkn ?_
    refine Ends.next ?_
    refine CW.region ?_
    refine WL.v (Val.move rfl rfl) ?_ -- d12
    refine WL.v (Val.subt rfl rfl rfl ((i : Int) - 1) (i64_eq (by omega) (by omega))) ?_
    refine WL.v (Val.assign rfl rfl) ?_ -- d7
    refine WL.nil ?_
    exact Ends.round (v2, i) (by simp only; omega) ⟨rfl, rfl, rfl, trivial⟩ ⟨by omega, ⟨_, hown2, by rw [← hL]; simp [putL], by simp; omega⟩, grown_step hgr hg2 hat, at_step (w := w) hat hat2 hs1 rfl⟩
  · -- no
    obtain rfl : j = 0 := by omega
    simp only [putL, List.append_nil] at hL
    subst hL
    refine CW.exit ?_
    refine Ends.seqx ?_
    refine Ends.seqx ?_
    refine Ends.blke ?_
    refine Ends.next ?_
    refine CW.seq ?_
    refine CW.region ?_
    refine WL.v (Val.move rfl rfl) ?_ -- d22
    refine WL.v (Val.assign rfl rfl) ?_ -- d6
    refine WL.nil ?_
    refine Ends.next ?_
    refine CW.ret ?_
    exact Ends.ret1 rfl rfl ⟨hown, hgr, hat⟩
-- signet/config.Check
theorem check16 (v va vs : Value) (c : Cf) (w : World) (h : CfV w v va vs c) (hw : (wireL c.apex).length ≤ 1000000) : Runs Try.prog 16 #[v] w fun r w' => r = .int .i64 (checkC c) ∧ Below w.heap.size w w' := by
  obtain ⟨rfl, ha, hs, hok⟩ := h
  obtain ⟨Aa, ca, hva, -⟩ := id ha
  rw [List.length_map] at hva
  subst hva
  obtain ⟨As, cs, hvs, -⟩ := id hs
  rw [List.length_map] at hvs
  subst hvs
  refine enter (N := 89) (args := [_]) Try.func16 rfl rfl (Nat.le_of_ble_eq_true rfl) ?_
  refine CW.seq ?_
  refine CW.region ?_
  refine WL.boxS _ rfl rfl (cfL_cells _ _ c) (fun g w1 hB1 hg1 hb1 hz1 => ?_)
  have ha1 := ha.keep hb1
  have hs1 := hs.keep hb1
  refine WL.v (Val.assign rfl rfl) ?_ -- d2
  refine WL.nil ?_
  refine Ends.next ?_
  refine CW.seq ?_
  refine CW.block ?_
  refine CW.seq ?_
  refine CW.seq ?_
  refine CW.region ?_
  refine WL.v (Val.fldA 0 rfl rfl (fun _ => by kernel_rfl)) ?_ -- d4
  refine WL.v (Val.loadF rfl rfl pl23 (at_ (by assumption)) rfl) ?_ -- d5
  refine WL.call bodied38 rfl rfl (check38 _ _ _ ha1 (by rw [wireL_length] at hw; omega)) ?_
  rintro _ _ ⟨rfl, rfl⟩
  refine WL.v (Val.neqI rfl rfl rfl) ?_ -- d7
  refine WL.v (Val.move rfl rfl) ?_ -- d8
  refine WL.forkX (rest := []) (α := Unit) (fun _ => [(1, .pointer (some ⟨g, 0, none⟩)), (3, (.bool (cb1 c)))]) (fun _ w' => Blk w' g 28 (cfL (.slice Aa c.apex.length ca) (.slice As c.salt.length cs) c) ∧ Below w1.heap.size w1 w') ?_ (fun tail => ?_)
  rotate_left
  · -- the branches
    by_cases h1 : checkN c.apex ≠ 0
    · -- yes
      refine WL.noB rfl rfl rfl (decide_eq_true h1) ?_
      refine WL.noB rfl rfl rfl (decide_eq_true h1) ?_
      refine WL.noB rfl rfl rfl (decide_eq_true h1) ?_
      refine WL.noB rfl rfl rfl (decide_eq_true h1) ?_
      refine WL.v (Val.pickT rfl rfl (decide_eq_true h1) rfl) ?_ -- d13
      refine WL.v (Val.move rfl rfl) ?_ -- d14
      refine WL.noB rfl rfl rfl (rfl) ?_
      refine WL.noB rfl rfl rfl (rfl) ?_
      refine WL.noB rfl rfl rfl (rfl) ?_
      refine WL.noB rfl rfl rfl (rfl) ?_
      refine WL.noB rfl rfl rfl (rfl) ?_
      refine WL.v (Val.pickT rfl rfl (rfl) rfl) ?_ -- d20
      refine WL.v (Val.assign rfl rfl) ?_ -- d3
      refine WL.know 3 (.bool (cb1 c)) rfl (congrArg Value.bool (by rw [cb1, eq_comm, decide_eq_true_eq]; exact .inl h1)) ?_
      refine WL.join ?_ (tail () _ ⟨by assumption, Below.refl _ _⟩)
      exact ⟨rfl, rfl, trivial⟩
    · -- no
      by_cases h2 : (c.apex.length : Int) = 0
      · -- yes
        refine WL.yes rfl rfl rfl (decide_eq_false h1) ?_
        refine WL.v (Val.fldA 0 rfl rfl (fun _ => by kernel_rfl)) ?_ -- d9
        refine WL.yes rfl rfl rfl (decide_eq_false h1) ?_
        refine WL.v (Val.loadF rfl rfl pl23 (at_ (by assumption)) rfl) ?_ -- d10
        refine WL.yes rfl rfl rfl (decide_eq_false h1) ?_
        refine WL.v (Val.lenSl rfl Try.underlying23 rfl) ?_ -- d11
        refine WL.yes rfl rfl rfl (decide_eq_false h1) ?_
        refine WL.v (Val.eqlI rfl rfl rfl) ?_ -- d12
        refine WL.v (Val.pickF rfl rfl (decide_eq_false h1) rfl) ?_ -- d13
        refine WL.v (Val.move rfl rfl) ?_ -- d14
        refine WL.noB rfl rfl rfl (decide_eq_true h2) ?_
        refine WL.noB rfl rfl rfl (decide_eq_true h2) ?_
        refine WL.noB rfl rfl rfl (decide_eq_true h2) ?_
        refine WL.noB rfl rfl rfl (decide_eq_true h2) ?_
        refine WL.noB rfl rfl rfl (decide_eq_true h2) ?_
        refine WL.v (Val.pickT rfl rfl (decide_eq_true h2) rfl) ?_ -- d20
        refine WL.v (Val.assign rfl rfl) ?_ -- d3
        refine WL.know 3 (.bool (cb1 c)) rfl (congrArg Value.bool (by rw [cb1]; exact (decide_eq_true (by omega)).symm)) ?_
        refine WL.join ?_ (tail () _ ⟨by assumption, Below.refl _ _⟩)
        exact ⟨rfl, rfl, trivial⟩
      · -- no
        refine WL.yes rfl rfl rfl (decide_eq_false h1) ?_
        refine WL.v (Val.fldA 0 rfl rfl (fun _ => by kernel_rfl)) ?_ -- d9
        refine WL.yes rfl rfl rfl (decide_eq_false h1) ?_
        refine WL.v (Val.loadF rfl rfl pl23 (at_ (by assumption)) rfl) ?_ -- d10
        refine WL.yes rfl rfl rfl (decide_eq_false h1) ?_
        refine WL.v (Val.lenSl rfl Try.underlying23 rfl) ?_ -- d11
        refine WL.yes rfl rfl rfl (decide_eq_false h1) ?_
        refine WL.v (Val.eqlI rfl rfl rfl) ?_ -- d12
        refine WL.v (Val.pickF rfl rfl (decide_eq_false h1) rfl) ?_ -- d13
        refine WL.v (Val.move rfl rfl) ?_ -- d14
        refine WL.yes rfl rfl rfl (decide_eq_false h2) ?_
        refine WL.v (Val.fldA 0 rfl rfl (fun _ => by kernel_rfl)) ?_ -- d15
        refine WL.yes rfl rfl rfl (decide_eq_false h2) ?_
        refine WL.v (Val.loadF rfl rfl pl23 (at_ (by assumption)) rfl) ?_ -- d16
        refine WL.yes rfl rfl rfl (decide_eq_false h2) ?_
        refine WL.call bodied33 rfl rfl (wire33 _ _ _ ha1 hw) ?_
        rintro r2 w2 ⟨hr2, hb2⟩
        obtain ⟨A2, c2, hv2, -⟩ := id hr2.sl
        rw [List.length_map] at hv2
        subst hv2
        have hB2 := hB1.keep hb2
        have hlw : (wireL c.apex ++ [0]).length = (wireL c.apex).length + 1 := by simp
        refine WL.yes rfl rfl rfl (decide_eq_false h2) ?_
        refine WL.v (Val.lenSl rfl Try.underlying25 rfl) ?_ -- d18
        refine WL.yes rfl rfl rfl (decide_eq_false h2) ?_
        refine WL.v (Val.gtr rfl rfl rfl) ?_ -- d19
        refine WL.v (Val.pickF rfl rfl (decide_eq_false h2) rfl) ?_ -- d20
        refine WL.v (Val.assign rfl rfl) ?_ -- d3
        refine WL.know 3 (.bool (cb1 c)) rfl (congrArg Value.bool (by rw [cb1]; exact decide_eq_decide.2 (by rw [hlw]; omega))) ?_
        refine WL.join ?_ (tail () _ ⟨hB2, hb2⟩)
        exact ⟨rfl, rfl, trivial⟩
  rintro ⟨⟩ w3 ⟨hB3, hb3⟩
  have hb13 := hb1.trans (hb3.mono hb1.size)
  refine WL.nil ?_
  refine Ends.next ?_
  refine CW.cond rfl (fun hc0 => ?_) (fun hc0 => ?_)
  · -- yes
    refine CW.skip ?_
    refine Ends.next ?_
    refine CW.condT rfl (hc0) ?_
    refine CW.seq ?_
    refine CW.region ?_
    refine WL.v (Val.assign rfl rfl) ?_ -- d2
    refine WL.nil ?_
    refine Ends.next ?_
    refine CW.ret ?_
    refine Ends.blkr ?_
    refine Ends.seqr ?_
    exact Ends.ret1 rfl rfl ⟨congrArg (Value.int .i64) (by first | exact (if_pos (by simp [*])).symm | exact (if_neg (by simp [*])).symm), hb13⟩
  · -- no
    refine CW.seq ?_
    refine CW.region ?_
    refine WL.v (Val.fldA 1 rfl rfl (fun _ => by kernel_rfl)) ?_ -- d21
    refine WL.v (Val.loadF rfl rfl pl24 (at_ (by assumption)) rfl) ?_ -- d22
    refine WL.v (Val.fldA 2 rfl rfl (fun _ => by kernel_rfl)) ?_ -- d23
    refine WL.v (Val.loadF rfl rfl pl24 (at_ (by assumption)) rfl) ?_ -- d24
    refine WL.v (Val.fldA 3 rfl rfl (fun _ => by kernel_rfl)) ?_ -- d25
    refine WL.v (Val.loadF rfl rfl pl24 (at_ (by assumption)) rfl) ?_ -- d26
    refine WL.v (Val.fldA 4 rfl rfl (fun _ => by kernel_rfl)) ?_ -- d27
    refine WL.v (Val.loadF rfl rfl pl24 (at_ (by assumption)) rfl) ?_ -- d28
    refine WL.v (Val.fldA 8 rfl rfl (fun _ => by kernel_rfl)) ?_ -- d29
    refine WL.v (Val.loadF rfl rfl pl24 (at_ (by assumption)) rfl) ?_ -- d30
    refine WL.v (Val.fldA 7 rfl rfl (fun _ => by kernel_rfl)) ?_ -- d31
    refine WL.v (Val.loadF rfl rfl pl24 (at_ (by assumption)) rfl) ?_ -- d32
    refine WL.v (Val.fldA 6 rfl rfl (fun _ => by kernel_rfl)) ?_ -- d33
    refine WL.v (Val.loadF rfl rfl pl24 (at_ (by assumption)) rfl) ?_ -- d34
    refine WL.v (Val.fldA 5 rfl rfl (fun _ => by kernel_rfl)) ?_ -- d35
    refine WL.v (Val.loadF rfl rfl pl24 (at_ (by assumption)) rfl) ?_ -- d36
    refine WL.v (Val.maxN (xs := [_, _, _, _, _, _, _, _]) (a := (c.kt : Int)) (l := [(c.pr : Int), c.dt, c.dp, c.mt, c.ga, c.le, c.va]) rfl rfl) ?_
    refine WL.v (Val.gtr rfl rfl rfl) ?_
    refine WL.know 38 (.bool (cb2 c)) rfl (congrArg Value.bool ?hcb2) ?_
    case hcb2 =>
      rw [Bool.eq_iff_iff, decide_eq_true_eq, maxL_gt]
      simp [cb2, bigL]
      omega
    refine WL.v (Val.assign rfl rfl) ?_ -- d3
    refine WL.nil ?_
    refine Ends.next ?_
    refine CW.cond rfl (fun hc2 => ?_) (fun hc2 => ?_)
    · -- yes
      refine CW.skip ?_
      refine Ends.next ?_
      refine CW.condT rfl (hc2) ?_
      refine CW.seq ?_
      refine CW.region ?_
      refine WL.v (Val.assign rfl rfl) ?_ -- d2
      refine WL.nil ?_
      refine Ends.next ?_
      refine CW.ret ?_
      refine Ends.blkr ?_
      refine Ends.seqr ?_
      exact Ends.ret1 rfl rfl ⟨congrArg (Value.int .i64) (by first | exact (if_pos (by simp [*])).symm | exact (if_neg (by simp [*])).symm), hb13⟩
    · -- no
      have hbg : ∀ n ∈ bigL c, n ≤ 16777216 := by simpa [cb2] using hc2
      have hbmt := hbg c.mt (by simp [bigL])
      have hbga := hbg c.ga (by simp [bigL])
      have hble := hbg c.le (by simp [bigL])
      refine CW.seq ?_
      refine CW.region ?_
      refine WL.v (Val.fldA 1 rfl rfl (fun _ => by kernel_rfl)) ?_ -- d39
      refine WL.v (Val.loadF rfl rfl pl24 (at_ (by assumption)) rfl) ?_ -- d40
      refine WL.v (Val.lss rfl rfl rfl) ?_ -- d41
      refine WL.v (Val.move rfl rfl) ?_ -- d42
      refine WL.or (j := 3) (seg := [_, _, _, _, _]) (r := decide ((c.mt : Int) < c.kt)) rfl rfl rfl rfl (fun hb48 HK48 => ?hT1) ?_
      case hT1 =>
        refine WL.yes rfl rfl rfl hb48 ?_
        refine WL.v (Val.fldA 1 rfl rfl (fun _ => by kernel_rfl)) ?_ -- d43
        refine WL.yes rfl rfl rfl hb48 ?_
        refine WL.v (Val.loadF rfl rfl pl24 (at_ (by assumption)) rfl) ?_ -- d44
        refine WL.yes rfl rfl rfl hb48 ?_
        refine WL.v (Val.fldA 8 rfl rfl (fun _ => by kernel_rfl)) ?_ -- d45
        refine WL.yes rfl rfl rfl hb48 ?_
        refine WL.v (Val.loadF rfl rfl pl24 (at_ (by assumption)) rfl) ?_ -- d46
        refine WL.yes rfl rfl rfl hb48 ?_
        refine WL.v (Val.gtr rfl rfl rfl) ?_ -- d47
        refine WL.v (Val.pickF rfl rfl hb48 rfl) ?_
        refine WL.forget rfl ?_; refine WL.forget rfl ?_; refine WL.forget rfl ?_; refine WL.forget rfl ?_; refine WL.forget rfl ?_
        exact HK48
      refine WL.know 48 (.bool (cb3 c)) rfl (congrArg Value.bool (by rw [cb3, ← Bool.decide_or]; exact decide_eq_decide.2 (by omega))) ?_
      refine WL.v (Val.assign rfl rfl) ?_ -- d3
      refine WL.nil ?_
      refine Ends.next ?_
      refine CW.cond rfl (fun hc4 => ?_) (fun hc4 => ?_)
      · -- yes
        refine CW.skip ?_
        refine Ends.next ?_
        refine CW.condT rfl (hc4) ?_
        refine CW.seq ?_
        refine CW.region ?_
        refine WL.v (Val.assign rfl rfl) ?_ -- d2
        refine WL.nil ?_
        refine Ends.next ?_
        refine CW.ret ?_
        refine Ends.blkr ?_
        refine Ends.seqr ?_
        exact Ends.ret1 rfl rfl ⟨congrArg (Value.int .i64) (by first | exact (if_pos (by simp [*])).symm | exact (if_neg (by simp [*])).symm), hb13⟩
      · -- no
        refine CW.seq ?_
        refine CW.region ?_
        refine WL.v (Val.fldA 6 rfl rfl (fun _ => by kernel_rfl)) ?_ -- d49
        refine WL.v (Val.loadF rfl rfl pl24 (at_ (by assumption)) rfl) ?_ -- d50
        refine WL.v (Val.fldA 8 rfl rfl (fun _ => by kernel_rfl)) ?_ -- d51
        refine WL.v (Val.loadF rfl rfl pl24 (at_ (by assumption)) rfl) ?_ -- d52
        refine WL.v (Val.fldA 7 rfl rfl (fun _ => by kernel_rfl)) ?_ -- d53
        refine WL.v (Val.loadF rfl rfl pl24 (at_ (by assumption)) rfl) ?_ -- d54
        refine WL.v (Val.add rfl rfl rfl ((c.mt + c.ga : Nat) : Int) (by rw [IntWalk.u32_in _ (by omega)]; omega)) ?_
        refine WL.v (Val.leq rfl rfl rfl) ?_ -- d56
        refine WL.v (Val.move rfl rfl) ?_ -- d57
        refine WL.or (j := 8) (seg := [_, _, _, _, _, _, _, _]) (r := decide ((c.va : Int) ≤ (c.le + c.ga : Nat))) rfl rfl rfl rfl (fun hb66 HK66 => ?hT2) ?_
        case hT2 =>
          refine WL.yes rfl rfl rfl hb66 ?_
          refine WL.v (Val.fldA 5 rfl rfl (fun _ => by kernel_rfl)) ?_ -- d58
          refine WL.yes rfl rfl rfl hb66 ?_
          refine WL.v (Val.loadF rfl rfl pl24 (at_ (by assumption)) rfl) ?_ -- d59
          refine WL.yes rfl rfl rfl hb66 ?_
          refine WL.v (Val.fldA 6 rfl rfl (fun _ => by kernel_rfl)) ?_ -- d60
          refine WL.yes rfl rfl rfl hb66 ?_
          refine WL.v (Val.loadF rfl rfl pl24 (at_ (by assumption)) rfl) ?_ -- d61
          refine WL.yes rfl rfl rfl hb66 ?_
          refine WL.v (Val.fldA 7 rfl rfl (fun _ => by kernel_rfl)) ?_ -- d62
          refine WL.yes rfl rfl rfl hb66 ?_
          refine WL.v (Val.loadF rfl rfl pl24 (at_ (by assumption)) rfl) ?_ -- d63
          refine WL.yes rfl rfl rfl hb66 ?_
          refine WL.v (Val.add rfl rfl rfl ((c.le + c.ga : Nat) : Int) (by rw [IntWalk.u32_in _ (by omega)]; omega)) ?_
          refine WL.yes rfl rfl rfl hb66 ?_
          refine WL.v (Val.leq rfl rfl rfl) ?_ -- d65
          refine WL.v (Val.pickF rfl rfl hb66 rfl) ?_
          refine WL.forget rfl ?_; refine WL.forget rfl ?_; refine WL.forget rfl ?_; refine WL.forget rfl ?_; refine WL.forget rfl ?_; refine WL.forget rfl ?_; refine WL.forget rfl ?_; refine WL.forget rfl ?_
          exact HK66
        refine WL.know 66 (.bool (cb4 c)) rfl (congrArg Value.bool (by rw [cb4, ← Bool.decide_or]; exact decide_eq_decide.2 (by omega))) ?_
        refine WL.v (Val.assign rfl rfl) ?_ -- d3
        refine WL.nil ?_
        refine Ends.next ?_
        refine CW.cond rfl (fun hc6 => ?_) (fun hc6 => ?_)
        · -- yes
          refine CW.skip ?_
          refine Ends.next ?_
          refine CW.condT rfl (hc6) ?_
          refine CW.seq ?_
          refine CW.region ?_
          refine WL.v (Val.assign rfl rfl) ?_ -- d2
          refine WL.nil ?_
          refine Ends.next ?_
          refine CW.ret ?_
          refine Ends.blkr ?_
          refine Ends.seqr ?_
          exact Ends.ret1 rfl rfl ⟨congrArg (Value.int .i64) (by first | exact (if_pos (by simp [*])).symm | exact (if_neg (by simp [*])).symm), hb13⟩
        · -- no
          refine CW.seq ?_
          refine CW.region ?_
          refine WL.v (Val.fldA 9 rfl rfl (fun _ => by kernel_rfl)) ?_ -- d67
          refine WL.v (Val.loadF rfl rfl pl25 (at_ (by assumption)) rfl) ?_ -- d68
          refine WL.v (Val.lenSl rfl Try.underlying25 rfl) ?_ -- d69
          refine WL.v (Val.gtr rfl rfl rfl) ?_ -- d70
          refine WL.v (Val.move rfl rfl) ?_ -- d71
          refine WL.or (j := 4) (seg := [_, _, _]) (r := decide (50 < (c.it : Int))) rfl rfl rfl rfl (fun hb75 HK75 => ?hT3) ?_
          case hT3 =>
            refine WL.yes rfl rfl rfl hb75 ?_
            refine WL.v (Val.fldA 10 rfl rfl (fun _ => by kernel_rfl)) ?_ -- d72
            refine WL.yes rfl rfl rfl hb75 ?_
            refine WL.v (Val.loadF rfl rfl pl26 (at_ (by assumption)) rfl) ?_ -- d73
            refine WL.yes rfl rfl rfl hb75 ?_
            refine WL.v (Val.gtr rfl rfl rfl) ?_ -- d74
            refine WL.v (Val.pickF rfl rfl hb75 rfl) ?_
            refine WL.forget rfl ?_; refine WL.forget rfl ?_; refine WL.forget rfl ?_
            exact HK75
          refine WL.know 75 (.bool (cb5 c)) rfl (congrArg Value.bool (by rw [cb5, ← Bool.decide_or]; exact decide_eq_decide.2 (by omega))) ?_
          refine WL.v (Val.assign rfl rfl) ?_ -- d3
          refine WL.nil ?_
          refine Ends.next ?_
          refine CW.cond rfl (fun hc8 => ?_) (fun hc8 => ?_)
          · -- yes
            refine CW.skip ?_
            refine Ends.next ?_
            refine CW.condT rfl (hc8) ?_
            refine CW.seq ?_
            refine CW.region ?_
            refine WL.v (Val.assign rfl rfl) ?_ -- d2
            refine WL.nil ?_
            refine Ends.next ?_
            refine CW.ret ?_
            refine Ends.blkr ?_
            refine Ends.seqr ?_
            exact Ends.ret1 rfl rfl ⟨congrArg (Value.int .i64) (by first | exact (if_pos (by simp [*])).symm | exact (if_neg (by simp [*])).symm), hb13⟩
          · -- no
            refine CW.region ?_
            refine WL.v (Val.fldA 11 rfl rfl (fun _ => by kernel_rfl)) ?_ -- d76
            refine WL.v (Val.loadF rfl rfl pl3 (at_ (by assumption)) rfl) ?_ -- d77
            refine WL.v (Val.lss rfl rfl rfl) ?_ -- d78
            refine WL.v (Val.move rfl rfl) ?_ -- d79
            refine WL.or (j := 3) (seg := [_, _, _]) (r := decide (10 < c.h)) rfl rfl rfl rfl (fun hb83 HK83 => ?hT4) ?_
            case hT4 =>
              refine WL.yes rfl rfl rfl hb83 ?_
              refine WL.v (Val.fldA 11 rfl rfl (fun _ => by kernel_rfl)) ?_ -- d80
              refine WL.yes rfl rfl rfl hb83 ?_
              refine WL.v (Val.loadF rfl rfl pl3 (at_ (by assumption)) rfl) ?_ -- d81
              refine WL.yes rfl rfl rfl hb83 ?_
              refine WL.v (Val.gtr rfl rfl rfl) ?_ -- d82
              refine WL.v (Val.pickF rfl rfl hb83 rfl) ?_
              refine WL.forget rfl ?_; refine WL.forget rfl ?_; refine WL.forget rfl ?_
              exact HK83
            refine WL.v (Val.move rfl rfl) ?_ -- d84
            refine WL.or (j := 8) (seg := [_, _, _]) (r := decide ((c.sz : Int) < 512)) rfl rfl rfl rfl (fun hb88 HK88 => ?hT5) ?_
            case hT5 =>
              refine WL.yes rfl rfl rfl hb88 ?_
              refine WL.v (Val.fldA 12 rfl rfl (fun _ => by kernel_rfl)) ?_ -- d85
              refine WL.yes rfl rfl rfl hb88 ?_
              refine WL.v (Val.loadF rfl rfl pl26 (at_ (by assumption)) rfl) ?_ -- d86
              refine WL.yes rfl rfl rfl hb88 ?_
              refine WL.v (Val.lss rfl rfl rfl) ?_ -- d87
              refine WL.v (Val.pickF rfl rfl hb88 rfl) ?_
              refine WL.forget rfl ?_; refine WL.forget rfl ?_; refine WL.forget rfl ?_
              exact HK88
            refine WL.know 88 (.bool (cb6 c)) rfl (congrArg Value.bool (by rw [cb6, ← Bool.decide_or, ← Bool.decide_or]; exact decide_eq_decide.2 (by omega))) ?_
            refine WL.v (Val.assign rfl rfl) ?_ -- d3
            refine WL.nil ?_
            refine Ends.next ?_
            refine CW.cond rfl (fun hc10 => ?_) (fun hc10 => ?_)
            · -- yes
              refine CW.seq ?_
              refine CW.region ?_
              refine WL.v (Val.assign rfl rfl) ?_ -- d2
              refine WL.nil ?_
              refine Ends.next ?_
              refine CW.ret ?_
              refine Ends.blkr ?_
              refine Ends.seqr ?_
              exact Ends.ret1 rfl rfl ⟨congrArg (Value.int .i64) (by first | exact (if_pos (by simp [*])).symm | exact (if_neg (by simp [*])).symm), hb13⟩
            · -- no
              refine CW.skip ?_
              refine Ends.blkn ?_
              refine Ends.next ?_
              refine CW.seq ?_
              refine CW.region ?_
              refine WL.v (Val.assign rfl rfl) ?_ -- d2
              refine WL.nil ?_
              refine Ends.next ?_
              refine CW.ret ?_
              exact Ends.ret1 rfl rfl ⟨congrArg (Value.int .i64) (by first | exact (if_pos (by simp [*])).symm | exact (if_neg (by simp [*])).symm), hb13⟩
end Go.Proofs.Ytjdgckamjgldmaa
