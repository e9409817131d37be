/- Walks: config.Open. -/
import Derived.Test.YtjdgckamjgldmaaW29
namespace Go.Proofs.Ytjdgckamjgldmaa
open Go.RowKit Go.Eng

theorem openN_ok {b : List UInt8} (h : (openN b).2.2 = 0) : ∃ k : Nat, (openN b).2.1 = (k : Int) ∧ k ≤ b.length := by
  unfold openN at h ⊢
  cases hf : openF (b.length + 1) b 0 [] with
  | none => rw [hf] at h; cases h
  | some p =>
    obtain ⟨n, i⟩ := p
    rw [hf] at h
    obtain ⟨j, rfl, _, hj⟩ := openF_read (acc := []) ⟨rfl, by simp⟩ hf
    by_cases hc : 255 < j + 1
    · simp only [if_pos hc] at h
      cases h
    · exact ⟨j + 1, by simp only [if_neg hc], hj⟩
def stg (nv : Value) (l : List Nat) (i : Nat) : List Value := nv :: ((l.take i).map (fun n => Value.int .u32 (n : Nat)) ++ (List.replicate (8 - i) (.int .u32 0) ++ [.slice none 0 0, .int .u16 0, .int .i64 0, .int .u16 0]))
theorem stg_at (nv : Value) (c : Cf) (i : Nat) (h : i < 8) : (stg nv (timeL c) i)[i + 1]? = some (.int .u32 0) := by
  have : i = 0 ∨ i = 1 ∨ i = 2 ∨ i = 3 ∨ i = 4 ∨ i = 5 ∨ i = 6 ∨ i = 7 := by omega
  rcases this with rfl | rfl | rfl | rfl | rfl | rfl | rfl | rfl <;> rfl
theorem stg_set (nv : Value) (c : Cf) (i : Nat) (h : i < 8) : (stg nv (timeL c) i).set (i + 1) (.int .u32 ((timeL c).getD i 0 : Nat)) = stg nv (timeL c) (i + 1) := by
  have : i = 0 ∨ i = 1 ∨ i = 2 ∨ i = 3 ∨ i = 4 ∨ i = 5 ∨ i = 6 ∨ i = 7 := by omega
  rcases this with rfl | rfl | rfl | rfl | rfl | rfl | rfl | rfl <;> rfl
theorem mk_time (n : List ByteArray) (R : List UInt8) (i : Nat) (h : i < 8) : (timeL (mkC n R)).getD i 0 = g4 R (4 * i) := by
  have : i = 0 ∨ i = 1 ∨ i = 2 ∨ i = 3 ∨ i = 4 ∨ i = 5 ∨ i = 6 ∨ i = 7 := by omega
  rcases this with rfl | rfl | rfl | rfl | rfl | rfl | rfl | rfl <;> rfl
theorem drop_get {R : List UInt8} {m j : Nat} (h : m + j < R.length) : ((R.drop m).map bv)[j]? = some (bv (R.getD (m + j) 0)) := by
  rw [List.getElem?_map, List.getElem?_drop, List.getElem?_eq_getElem h, List.getD_eq_getElem?_getD, List.getElem?_eq_getElem h]
  rfl
theorem or3 (a b c d : UInt8) : a.toNat * 16777216 ||| b.toNat * 65536 = a.toNat * 16777216 + b.toNat * 65536 ∧ (a.toNat * 16777216 + b.toNat * 65536) ||| c.toNat * 256 = a.toNat * 16777216 + b.toNat * 65536 + c.toNat * 256 ∧
    (a.toNat * 16777216 + b.toNat * 65536 + c.toNat * 256) ||| d.toNat = a.toNat * 16777216 + b.toNat * 65536 + c.toNat * 256 + d.toNat := by
  have ha := a.toNat_lt
  have hb := b.toNat_lt
  have hc := c.toNat_lt
  have hd := d.toNat_lt
  refine ⟨or_hi 24 rfl (by omega), ?_, ?_⟩
  · have := or_hi (x := a.toNat * 256 + b.toNat) (m := 65536) (y := c.toNat * 256) 16 rfl (by omega)
    rw [show a.toNat * 16777216 + b.toNat * 65536 = (a.toNat * 256 + b.toNat) * 65536 by omega, this]
  · have := or_hi (x := a.toNat * 65536 + b.toNat * 256 + c.toNat) (m := 256) (y := d.toNat) 8 rfl (by omega)
    rw [show a.toNat * 16777216 + b.toNat * 65536 + c.toNat * 256 = (a.toNat * 65536 + b.toNat * 256 + c.toNat) * 256 by omega, this]
theorem OwnB.grownBy {w w' : World} {base : Nat} {v : Value} {l : List UInt8} {g : Nat} (h : OwnB w base v l) (hg : w.grownBy w' (some g)) (hne : v.ownBlock ≠ some g) : OwnB w' base v l := World.ownsRow.kept h hg (.inr hne)
theorem grownBy_row (w : World) (g : Nat) (cs : Array Value) : w.grownBy (w.setRow g cs) (some g) := ⟨rfl, rfl, rfl, by simp, fun k _ hne => setRow_other w g k cs (fun he => hne (by rw [he]))⟩
/-- A value of the type of settings. -/
def AggV (v : Value) : Prop := ∃ cs : List Value, v = .agg cs.toArray ∧ cs.length = 13 ∧ ∀ q ∈ cs, q.oneCell' = true
theorem zeroC_one : ∀ q ∈ zeroC, q.oneCell' = true := by
  intro q hq
  simp only [zeroC, List.mem_cons, List.not_mem_nil, or_false] at hq
  rcases hq with rfl | rfl | rfl | rfl | rfl | rfl | rfl | rfl | rfl | rfl | rfl | rfl | rfl <;> rfl
theorem sl_one {w : World} {v : Value} {xs : List Value} (h : Sl w v xs) : v.oneCell' = true := by
  obtain ⟨A, c, rfl, -⟩ := h
  rfl
theorem Sl_row {w w' : World} {v : Value} {xs : List Value} {g : Nat} {t : TypeId} {cs : List Value} {cs' : Array Value} (h : Sl w v xs) (hB : Blk w g t cs) (hne : ∀ x ∈ xs, x ∉ cs) (hw : w' = w.setRow g cs') : Sl w' v xs := by
  subst hw
  obtain ⟨A, c, hv, hl, h⟩ := h
  refine ⟨A, c, hv, hl, fun hx => ?_⟩
  obtain ⟨ad, hA, hc⟩ := h hx
  refine ⟨ad, hA, fun j u hu => ?_⟩
  have h1 := hc j u hu
  rw [cell_setRow_other w g cs' (ad.add j) ?_]
  · exact h1
  · intro he
    simp only [World.cell?, he, show w.heap[g]? = _ from hB] at h1
    split at h1
    · cases h1
    · rw [List.getElem?_toArray] at h1
      exact hne u (List.mem_of_getElem? hu) (List.mem_of_getElem? h1)
theorem Bs_cap {w : World} {A : Option Addr} {n c : Nat} {l : List UInt8} (h : Bs w (.slice A n c) l) : n ≤ c := Sl.cap h
-- signet/config.Open
theorem open21 (v : Value) (b : List UInt8) (w : World) (h : Bs w v b) (hl : b.length ≤ 1000000) : Runs Try.prog 21 #[v] w fun r w' => ∃ dv, r = .tuple #[dv, .int .i64 (if (openC b).isSome then 0 else 100)] ∧ AggV dv ∧ (∀ c, openC b = some c → ∃ va vs, CfV w' dv va vs c) ∧ Below w.heap.size w w' := by
  obtain ⟨A, cb, hv, -⟩ := id h
  rw [List.length_map] at hv
  subst hv
  refine enter (N := 118) (args := [_]) Try.func21 rfl rfl (Nat.le_of_ble_eq_true rfl) ?_
  refine CW.seq ?_
  refine CW.region ?_
  refine WL.allocS zeroC rfl zero28 rfl (fun g2 w1 hB1 hg2 hb1 hz1 => ?_)
  have h1 := h.keep hb1
  refine WL.v (Val.assign rfl rfl) ?_ -- d3
  refine WL.nil ?_
  refine Ends.next ?_
  refine CW.seq ?_
  refine CW.region ?_
  refine WL.v (Val.move rfl rfl) ?_ -- d13
  refine WL.call bodied28 rfl rfl (open28 _ _ _ h1 hl) ?_
  rintro _ w2 ⟨nv, rfl, hnv, hb2⟩
  have hB2 := hB1.keep hb2
  have hb12 := hb1.trans (hb2.mono hb1.size)
  refine WL.v (Val.move rfl rfl) ?_ -- d12
  refine WL.v (Val.extract rfl rfl rfl) ?_ -- d15
  refine WL.v (Val.extract rfl rfl rfl) ?_ -- d16
  refine WL.v (Val.extract rfl rfl rfl) ?_ -- d17
  refine WL.v (Val.assign rfl rfl) ?_ -- d4
  refine WL.v (Val.assign rfl rfl) ?_ -- d5
  refine WL.v (Val.assign rfl rfl) ?_ -- d6
  refine WL.nil ?_
  refine Ends.next ?_
  refine CW.seq ?_
  refine CW.seq ?_
  refine CW.region ?_
  refine WL.v (Val.move rfl rfl) ?_ -- d18
  refine WL.v (Val.neqI rfl rfl rfl) ?_ -- d19
  refine WL.nil ?_
  refine Ends.next ?_
  refine CW.condD rfl (fun hc0 => ?_) (fun hc0 => ?_)
  · -- yes
    have hno : openC b = none := if_pos hc0
    refine CW.seq ?_
    refine CW.region ?_
    refine WL.v (Val.buildF (l := []) (vs := []) (v := .agg zeroC.toArray) rfl rfl (fun w => by kernel_rfl)) ?_
    refine WL.storeS (cs' := zeroC) hB2 (size28 _ rfl) rfl rfl rfl rfl (by intro q hq; simp only [zeroC, List.mem_cons, List.not_mem_nil, or_false] at hq; rcases hq with rfl | rfl | rfl | rfl | rfl | rfl | rfl | rfl | rfl | rfl | rfl | rfl | rfl <;> rfl) (fun w3 hB3 hw3 => ?_)
    have hb3 : Below w.heap.size w w3 := hw3 ▸ below_setRow hb12 (by omega) _
    refine WL.v (Val.assign rfl rfl) ?_ -- d3
    refine WL.nil ?_
    refine Ends.next ?_
    refine CW.ret ?_
    refine Ends.seqr ?_
    exact Ends.retS1 Try.underlying28 (size28 _ rfl) hB3 rfl rfl rfl ⟨_, by rw [hno]; rfl, ⟨zeroC, rfl, rfl, zeroC_one⟩, fun c hc => (by rw [hno] at hc; cases hc), hb3⟩
  · -- no
    have he0 : (openN b).2.2 = 0 := by omega
    obtain ⟨k, hk, hkl⟩ := openN_ok he0
    have hop : openC b = openR_ (openN b).1 (b.drop k) := by
      rw [openC, if_neg (by rw [he0]; decide), hk, Int.toNat_natCast]
    rw [hk]
    generalize (openN b).1 = n at *
    obtain ⟨An, cn, hnvv, -⟩ := id hnv
    rw [List.length_map] at hnvv
    subst hnvv
    refine CW.skip ?_
    refine Ends.next ?_
    refine CW.seq ?_
    refine CW.region ?_
    refine WL.v (Val.move rfl rfl) ?_ -- d21
    refine WL.v (Val.buildF (l := [(0, _)]) (v := .agg (stg (.slice An n.length cn) (timeL (mkC n (b.drop k))) 0).toArray) rfl rfl (fun w => by kernel_rfl)) ?_
    refine WL.allocS zeroC rfl zero28 rfl (fun g7 w3 hB3 hg7 hb3 hz3 => ?_)
    have hb23 : Below w2.heap.size w2 w3 := hb3
    refine WL.storeS (cs' := stg (.slice An n.length cn) (timeL (mkC n (b.drop k))) 0) hB3 (size28 _ rfl) rfl rfl rfl rfl (by intro q hq; simp only [stg, List.take_zero, List.map_nil, List.nil_append, Nat.sub_zero, List.replicate, List.cons_append, List.mem_cons, List.not_mem_nil, or_false] at hq; rcases hq with rfl | rfl | rfl | rfl | rfl | rfl | rfl | rfl | rfl | rfl | rfl | rfl | rfl <;> rfl) (fun w4 hB4 hw4 => ?_)
    have hb24 : Below w2.heap.size w2 w4 := hw4 ▸ below_setRow hb23 (by omega) _
    have hb04 := hb12.trans (hb24.mono hb12.size)
    refine WL.nil ?_
    refine Ends.next ?_
    refine CW.seq ?_
    refine CW.region ?_
    refine WL.v (Val.move rfl rfl) ?_ -- d23
    refine WL.v (Val.move rfl rfl) ?_ -- d24
    refine WL.v (Val.subSl k b.length rfl ty25 rfl rfl rfl hkl (Nat.le_refl _) (Bs_cap h)) ?_
    have hR : Bs w _ (b.drop k) := Bs.drop h hkl
    generalize (if cb = k then A else A.map (·.add k)) = Ar at *
    generalize cb - k = cr at *
    have hRl : b.length - k = (b.drop k).length := by rw [List.length_drop]
    rw [hRl] at hR
    rw [hRl]
    generalize b.drop k = R at *
    clear hRl hkl hk
    refine WL.v (Val.assign rfl rfl) ?_ -- d8
    refine WL.nil ?_
    refine Ends.next ?_
    refine CW.seq ?_
    refine CW.seq ?_
    refine CW.region ?_
    refine WL.v (Val.move rfl rfl) ?_ -- d26
    refine WL.v (Val.lenSl rfl Try.underlying25 rfl) ?_ -- d27
    refine WL.v (Val.lss rfl rfl rfl) ?_ -- d28
    refine WL.v (Val.move rfl rfl) ?_ -- d29
    refine WL.or (j := 3) (seg := [_, _, _, _, _, _, _, _, _]) (r := decide ((R.length : Int) ≠ ((33 + (R.getD 32 0).toNat : Nat) : Int) + 5)) rfl rfl rfl rfl (fun hb39 HK39 => ?hT1) ?_
    case hT1 =>
      refine WL.yes rfl rfl rfl hb39 ?_
      have hR32 : 32 < R.length := by simp at hb39; omega
      have hb32 := (R.getD 32 0).toNat_lt
      obtain ⟨adr, har, hcellr⟩ := Sl.elem hR (i := 32) (u := bv (R.getD 32 0)) (by have := drop_get (R := R) (m := 0) (j := 32) (by omega); simpa using this)
      subst har
      refine WL.v (Val.move rfl rfl) ?_
      refine WL.yes rfl rfl rfl hb39 ?_
      refine WL.v (Val.lenSl rfl Try.underlying25 rfl) ?_ -- d31
      refine WL.yes rfl rfl rfl hb39 ?_
      refine WL.v (Val.move rfl rfl) ?_ -- d32
      refine WL.yes rfl rfl rfl hb39 ?_
      refine WL.v (Val.indexAddr rfl ty25 rfl rfl (by omega) (by omega)) ?_ -- d33
      refine WL.yes rfl rfl rfl hb39 ?_
      refine WL.v (Val.load rfl pl5 rfl (at_ (below_cell hb04 hcellr))) ?_
      refine WL.yes rfl rfl rfl hb39 ?_
      refine WL.v (Val.convI rfl Try.underlying5 Try.underlying3 rfl ((R.getD 32 0).toNat : Int) (IntWalk.i64_in _ (by omega))) ?_
      refine WL.yes rfl rfl rfl hb39 ?_
      refine WL.v (Val.add rfl rfl rfl ((33 + (R.getD 32 0).toNat : Nat) : Int) (i64_eq (by omega) (by omega))) ?_
      refine WL.yes rfl rfl rfl hb39 ?_
      refine WL.v (Val.add rfl rfl rfl (((33 + (R.getD 32 0).toNat : Nat) : Int) + 5) (i64_eq (by omega) rfl)) ?_
      refine WL.yes rfl rfl rfl hb39 ?_
      refine WL.v (Val.neqI rfl rfl rfl) ?_ -- d38
      refine WL.v (Val.pickF rfl rfl hb39 rfl) ?_
      refine WL.forget rfl ?_; refine WL.forget rfl ?_; refine WL.forget rfl ?_; refine WL.forget rfl ?_; refine WL.forget rfl ?_; refine WL.forget rfl ?_; refine WL.forget rfl ?_; refine WL.forget rfl ?_; refine WL.forget rfl ?_
      exact HK39
    refine WL.nil ?_
    refine Ends.next ?_
    refine CW.cond rfl (fun hc1 => ?_) (fun hc1 => ?_)
    · -- yes
      have hno : openC b = none := by rw [hop]; refine if_pos ?_; simp only [Bool.or_eq_true, decide_eq_true_eq] at hc1; unfold badR; omega
      have hB4' : Blk w4 g2 28 zeroC := hB2.keep hb24
      refine CW.seq ?_
      refine CW.region ?_
      refine WL.v (Val.buildF (l := []) (vs := []) (v := .agg zeroC.toArray) rfl rfl (fun w => by kernel_rfl)) ?_
      refine WL.storeS (cs' := zeroC) hB4' (size28 _ rfl) rfl rfl rfl rfl (by intro q hq; simp only [zeroC, List.mem_cons, List.not_mem_nil, or_false] at hq; rcases hq with rfl | rfl | rfl | rfl | rfl | rfl | rfl | rfl | rfl | rfl | rfl | rfl | rfl <;> rfl) (fun w5 hB5 hw5 => ?_)
      have hb5 : Below w.heap.size w w5 := hw5 ▸ below_setRow hb04 (by omega) _
      refine WL.v (Val.assign rfl rfl) ?_ -- d3
      refine WL.nil ?_
      refine Ends.next ?_
      refine CW.ret ?_
      refine Ends.seqr ?_
      exact Ends.retS1 Try.underlying28 (size28 _ rfl) hB5 rfl rfl rfl ⟨_, by rw [hno]; rfl, ⟨zeroC, rfl, rfl, zeroC_one⟩, fun c hc => (by rw [hno] at hc; cases hc), hb5⟩
    · -- no
      simp only [Bool.or_eq_false_iff, decide_eq_false_iff_not, Decidable.not_not] at hc1
      have hb32 := (R.getD 32 0).toNat_lt
      have hsome : openC b = some (mkC n R) := by rw [hop]; exact if_neg (by unfold badR; omega)
      obtain ⟨s, hs⟩ : ∃ s, s = (R.getD 32 0).toNat := ⟨_, rfl⟩
      rw [← hs] at hb32
      have hRlen : R.length = 33 + s + 5 := by omega
      clear hc1
      refine CW.skip ?_
      refine Ends.next ?_
      refine CW.seq ?_
      refine CW.seq ?_
      refine CW.region ?_
      refine WL.call bodied49 rfl rfl (times49 g7 w4) ?_
      rintro _ w5 ⟨gt, rfl, hT5, hgt, hb5⟩
      have hB5 := hB4.keep hb5
      have hb25 : Below w2.heap.size w2 w5 := hb24.trans (hb5.mono hb24.size)
      have h75 := hB4.lt
      refine WL.v (Val.lenSl rfl Try.underlying67 rfl) ?_ -- d42
      refine WL.v (Val.move rfl rfl) ?_ -- d43
      refine WL.nil ?_
      refine Ends.next ?_
      refine CW.block ?_
      refine CW.loop (α := Value × Nat) (fun x => [(2, .pointer (some ⟨g2, 0, none⟩)), (7, .pointer (some ⟨g7, 0, none⟩)), (8, x.1), (41, .slice (some ⟨gt, 0, none⟩) 8 8), (42, .int .i64 8), (43, .int .i64 x.2)]) (fun x w6 => x.2 ≤ 8 ∧ Bs w x.1 (R.drop (4 * x.2)) ∧ Blk w6 g7 28 (stg (.slice An n.length cn) (timeL (mkC n R)) x.2) ∧ Blk w6 gt 70 (ptrs g7) ∧ Below w2.heap.size w2 w6) (fun x => 8 - x.2) (.slice Ar R.length cr, 0) ⟨rfl, rfl, rfl, rfl, rfl, rfl, trivial⟩ ⟨Nat.zero_le _, by simpa using hR, hB5, hT5, hb25⟩ ?_
      rintro ⟨rv, i⟩ w6 ⟨hi, hrv, hB6, hT6, hb26⟩
      dsimp only at hi hrv hB6 ⊢
      have hb06 := hb12.trans (hb26.mono hb12.size)
      refine CW.seq ?_
      refine CW.region ?_
      refine WL.v (Val.lss rfl rfl rfl) ?_ -- d44
      refine WL.nil ?_
      refine Ends.next ?_
      refine CW.seq ?_
      refine CW.condD rfl (fun hc2 => ?_) (fun hc2 => ?_)
      · -- yes
        have hlt : i < 8 := by omega
        obtain ⟨Ax, cx, rfl, hxl, hxc⟩ := id hrv
        rw [List.length_map] at hxl
        have hdl : (R.drop (4 * i)).length = R.length - 4 * i := List.length_drop
        obtain ⟨ad, rfl, hcell⟩ := hxc (by intro h0; have := congrArg List.length h0; rw [List.length_map] at this; simp at this; omega)
        rw [List.length_map]
        have k0 := (R.getD (4 * i) 0).toNat_lt
        have k1 := (R.getD (4 * i + 1) 0).toNat_lt
        have k2 := (R.getD (4 * i + 2) 0).toNat_lt
        have k3 := (R.getD (4 * i + 3) 0).toNat_lt
        obtain ⟨o1, o2, o3⟩ := or3 (R.getD (4 * i) 0) (R.getD (4 * i + 1) 0) (R.getD (4 * i + 2) 0) (R.getD (4 * i + 3) 0)
        refine CW.skip ?_
        refine Ends.next ?_
        refine CW.seq ?_
        refine CW.block ?_
        refine CW.seq ?_
        refine CW.region ?_
        refine WL.elem ty67 (hT6.sl rfl) rfl rfl rfl rfl (by omega) (v := .pointer (some ⟨g7, i + 1, none⟩)) (ptrs_get g7 i hlt) (fun _ => ?_)
        refine WL.v (Val.assign rfl rfl) ?_ -- d10
        refine WL.nil ?_
        refine Ends.next ?_
        refine CW.seq ?_
        refine CW.draw (fun w' => Below w.heap.size w w') hb06.drew ?_
        refine WH.take 0 rfl rfl (Val.move rfl rfl) ?_ -- d47
        refine WH.take 1 rfl rfl (Val.move rfl rfl) ?_ -- d48
        refine WH.take 2 rfl rfl (Val.indexAddr rfl ty25 rfl rfl (by omega) (by omega)) ?_ -- d49
        refine WH.take 3 rfl rfl (Val.load rfl pl5 rfl (fun w' hS => below_cell hS (hcell 0 (bv (R.getD (4 * i) 0)) (drop_get (m := 4 * i) (j := 0) (by omega))))) ?_ -- d50
        refine WH.take 4 rfl rfl (Val.convI rfl Try.underlying5 Try.underlying24 rfl _ (IntWalk.u32_in _ (by omega))) ?_ -- d51
        refine WH.take 5 rfl rfl (Val.shl rfl rfl rfl _ (shl_nat (n := (R.getD (4 * i) 0).toNat) (s := 24) (m := 16777216) rfl (by decide) (by decide) (by show _ < 4294967296; omega))) ?_ -- d52
        refine WH.take 6 rfl rfl (Val.move rfl rfl) ?_ -- d53
        refine WH.take 7 rfl rfl (Val.indexAddr rfl ty25 rfl rfl (by omega) (by omega)) ?_ -- d54
        refine WH.take 8 rfl rfl (Val.load rfl pl5 rfl (fun w' hS => below_cell hS (hcell 1 _ (drop_get (m := 4 * i) (j := 1) (by omega))))) ?_ -- d55
        refine WH.take 9 rfl rfl (Val.convI rfl Try.underlying5 Try.underlying24 rfl _ (IntWalk.u32_in _ (by omega))) ?_ -- d56
        refine WH.take 10 rfl rfl (Val.shl rfl rfl rfl _ (shl_nat (n := (R.getD (4 * i + 1) 0).toNat) (s := 16) (m := 65536) rfl (by decide) (by decide) (by show _ < 4294967296; omega))) ?_ -- d57
        refine WH.take 11 rfl rfl (Val.orN (k := .u32) (a := (R.getD (4 * i) 0).toNat * 16777216) (b := (R.getD (4 * i + 1) 0).toNat * 65536) rfl rfl rfl rfl (by show _ < 4294967296; omega) (by show _ < 4294967296; omega) ((R.getD (4 * i) 0).toNat * 16777216 + (R.getD (4 * i + 1) 0).toNat * 65536) (o1)) ?_ -- d58
        refine WH.take 12 rfl rfl (Val.move rfl rfl) ?_ -- d59
        refine WH.take 13 rfl rfl (Val.indexAddr rfl ty25 rfl rfl (by omega) (by omega)) ?_ -- d60
        refine WH.take 14 rfl rfl (Val.load rfl pl5 rfl (fun w' hS => below_cell hS (hcell 2 _ (drop_get (m := 4 * i) (j := 2) (by omega))))) ?_ -- d61
        refine WH.take 15 rfl rfl (Val.convI rfl Try.underlying5 Try.underlying24 rfl _ (IntWalk.u32_in _ (by omega))) ?_ -- d62
        refine WH.take 16 rfl rfl (Val.shl rfl rfl rfl _ (shl_nat (n := (R.getD (4 * i + 2) 0).toNat) (s := 8) (m := 256) rfl (by decide) (by decide) (by show _ < 4294967296; omega))) ?_ -- d63
        refine WH.take 17 rfl rfl (Val.orN (k := .u32) (a := (R.getD (4 * i) 0).toNat * 16777216 + (R.getD (4 * i + 1) 0).toNat * 65536) (b := (R.getD (4 * i + 2) 0).toNat * 256) rfl rfl rfl rfl (by show _ < 4294967296; omega) (by show _ < 4294967296; omega) ((R.getD (4 * i) 0).toNat * 16777216 + (R.getD (4 * i + 1) 0).toNat * 65536 + (R.getD (4 * i + 2) 0).toNat * 256) (o2)) ?_ -- d64
        refine WH.take 18 rfl rfl (Val.move rfl rfl) ?_ -- d65
        refine WH.take 19 rfl rfl (Val.indexAddr rfl ty25 rfl rfl (by omega) (by omega)) ?_ -- d66
        refine WH.take 20 rfl rfl (Val.load rfl pl5 rfl (fun w' hS => below_cell hS (hcell 3 _ (drop_get (m := 4 * i) (j := 3) (by omega))))) ?_ -- d67
        refine WH.take 21 rfl rfl (Val.convI rfl Try.underlying5 Try.underlying24 rfl _ (IntWalk.u32_in _ (by omega))) ?_ -- d68
        refine WH.take 22 rfl rfl (Val.orN (k := .u32) (a := (R.getD (4 * i) 0).toNat * 16777216 + (R.getD (4 * i + 1) 0).toNat * 65536 + (R.getD (4 * i + 2) 0).toNat * 256) (b := (R.getD (4 * i + 3) 0).toNat) rfl rfl rfl rfl (by show _ < 4294967296; omega) (by show _ < 4294967296; omega) (g4 R (4 * i)) (o3)) ?_ -- d69
        refine WH.take 23 rfl rfl (Val.nilCheck rfl rfl) ?_ -- d70
        refine WH.step 24 rfl ?_ -- n11.24
        refine WL.storeF (q := .int .u32 (g4 R (4 * i) : Nat)) (Blk.drew hB6) (stg_at _ _ i hlt) one24 rfl rfl rfl rfl rfl (fun w7 hB7 hw7 => ?_)
        rw [← mk_time n R i hlt, stg_set _ _ i hlt] at hB7
        have hb27 : Below w2.heap.size w2 w7 := hw7 ▸ (hb26.drew).setCell (by show _ ≤ g7; omega) _
        have hb07 := hb12.trans (hb27.mono hb12.size)
        have hT7 : Blk w7 gt 70 (ptrs g7) := hw7 ▸ (Blk.drew hT6).other (by show gt ≠ g7; omega) _
        refine WH.back hb07 ?_
        refine WH.done ?_
        refine Ends.next ?_
        refine CW.region ?_
        refine WL.v (Val.move rfl rfl) ?_ -- d71
        refine WL.v (Val.subSl 4 (R.drop (4 * i)).length rfl ty25 rfl rfl rfl (by omega) (Nat.le_refl _) hxl) ?_
        have hrv4 := Bs.drop hrv (i := 4) (by rw [List.length_map]; omega)
        rw [List.length_map, List.drop_drop] at hrv4
        refine WL.v (Val.assign rfl rfl) ?_ -- d8
        refine WL.nil ?_
        refine Ends.blkn ?_
        refine Ends.next ?_
        refine CW.region ?_
        refine WL.v (Val.add rfl rfl rfl ((i + 1 : Nat) : Int) (i64_eq (by omega) (by omega))) ?_
        refine WL.v (Val.move rfl rfl) ?_ -- d43
        refine WL.nil ?_
        exact Ends.round (_, i + 1) (by simp only; omega) ⟨rfl, rfl, rfl, rfl, rfl, rfl, trivial⟩ ⟨hlt, by rw [show 4 * (i + 1) = 4 * i + 4 by omega]; exact hrv4, hB7, hT7, hb27⟩
      · -- no
        obtain rfl : i = 8 := by omega
        obtain ⟨Ax, cx, rfl, hxl, hxc⟩ := id hrv
        rw [List.length_map] at hxl
        have hdl : (R.drop (4 * 8)).length = R.length - 4 * 8 := List.length_drop
        obtain ⟨ad, rfl, hcell⟩ := hxc (by intro h0; have := congrArg List.length h0; rw [List.length_map] at this; simp at this; omega)
        rw [List.length_map]
        refine CW.exit ?_
        refine Ends.seqx ?_
        refine Ends.seqx ?_
        refine Ends.blke ?_
        refine Ends.next ?_
        refine CW.seq ?_
        refine CW.region ?_
        refine WL.v (Val.move rfl rfl) ?_ -- d74
        refine WL.elem ty25 (by rw [← List.length_map (f := bv)]; exact Sl.below hrv hb06) rfl rfl rfl rfl (by decide) (v := bv (R.getD 32 0)) (drop_get (m := 4 * 8) (j := 0) (by omega)) (fun _ => ?_)
        refine WL.v (Val.convI rfl Try.underlying5 Try.underlying3 rfl (s : Int) (by rw [hs]; exact IntWalk.i64_in _ (by omega))) ?_
        refine WL.v (Val.assign rfl rfl) ?_ -- d11
        refine WL.nil ?_
        refine Ends.next ?_
        refine CW.seq ?_
        refine CW.draw (fun w' => Below w.heap.size w w') hb06.drew ?_
        refine WH.take 0 rfl rfl (Val.fldA 9 rfl rfl (fun _ => by kernel_rfl)) ?_ -- d78
        refine WH.take 2 rfl rfl (Val.move rfl rfl) ?_ -- d80
        refine WH.take 3 rfl rfl (Val.move rfl rfl) ?_ -- d81
        refine WH.take 4 rfl rfl (Val.add rfl rfl rfl ((1 + s : Nat) : Int) (i64_eq (by omega) (by omega))) ?_ -- d82
        refine WH.take 5 rfl rfl (Val.subSl 1 (1 + s) rfl ty25 rfl rfl rfl (by omega) (by omega) hxl) ?_ -- d83
        refine WH.step 1 rfl ?_ -- d79
        refine WL.v (Val.loadF rfl rfl pl25 (at_ (Blk.drew hB6)) rfl) ?_
        refine WH.back hb06.drew ?_
        refine WH.step 6 rfl ?_ -- d84
        have hsub := Bs.sub (Bs.keep hrv hb06.drew) (i := 1) (k := 1 + s) (by omega) (by rw [List.length_map]; omega)
        refine WL.apL (OwnB.nil _ w6.drew.heap.size) hsub rfl rfl rfl (by rw [List.length_drop, List.length_take]; simp; omega) (Nat.le_refl _) (fun sv8 w8 hown8 hg8 _ => ?_)
        rw [List.nil_append] at hown8
        have hb68 := (OwnB.nil w6.drew w6.drew.heap.size).below hg8 (Nat.le_refl _)
        have hB8 := (Blk.drew hB6).keep hb68
        have hb28 : Below w2.heap.size w2 w8 := hb26.drew.trans (hb68.mono hb26.size)
        have hb08 := hb12.trans (hb28.mono hb12.size)
        have hsalt : (((R.drop (4 * 8)).take (1 + s)).drop 1) = (R.drop 33).take s := by rw [List.drop_take, List.drop_drop]; simp
        rw [hsalt] at hown8
        obtain ⟨As8, cs8, hsv8, -⟩ := id hown8.sl
        rw [List.length_map] at hsv8
        subst hsv8
        have hne7 : (Value.slice As8 ((R.drop 33).take s).length cs8).ownBlock ≠ some g7 := own_ne hown8 hB6.lt
        refine WH.back hb08 ?_
        refine WH.take 7 rfl rfl (Val.fldA 9 rfl rfl (fun _ => by kernel_rfl)) ?_ -- d85
        refine WH.step 8 rfl ?_ -- n15.8
        refine WL.storeF (q := .slice As8 ((R.drop 33).take s).length cs8) hB8 (i := 9) rfl one25 rfl rfl rfl rfl rfl (fun w9 hB9 hw9 => ?_)
        have hb29 : Below w2.heap.size w2 w9 := hw9 ▸ hb28.setCell (by show _ ≤ g7; omega) _
        have hb09 := hb12.trans (hb29.mono hb12.size)
        have hown9 : OwnB w9 w6.drew.heap.size (.slice As8 ((R.drop 33).take s).length cs8) ((R.drop 33).take s) := hw9 ▸ hown8.grownBy (grownBy_set1 _ _ _) hne7
        refine WH.back hb09 ?_
        refine WH.done ?_
        refine Ends.next ?_
        refine CW.seq ?_
        refine CW.region ?_
        refine WL.v (Val.move rfl rfl) ?_ -- d86
        refine WL.v (Val.move rfl rfl) ?_ -- d87
        refine WL.v (Val.add rfl rfl rfl ((1 + s : Nat) : Int) (i64_eq (by omega) (by omega))) ?_
        refine WL.v (Val.subSl (1 + s) (R.drop (4 * 8)).length rfl ty25 rfl rfl rfl (by omega) (Nat.le_refl _) hxl) ?_
        have hq := Bs.drop hrv (i := 1 + s) (by rw [List.length_map]; omega)
        rw [List.length_map, List.drop_drop, show 4 * 8 + (1 + s) = 33 + s by omega] at hq
        have hqn : (R.drop (4 * 8)).length - (1 + s) = 5 := by omega
        rw [hqn] at hq ⊢
        obtain ⟨Aq, cq, hqv, hql, hqc⟩ := hq
        have hdq : (R.drop (33 + s)).length = 5 := by rw [List.length_drop]; omega
        obtain ⟨adq, hadq, hcell⟩ := hqc (by intro h0; have := congrArg List.length h0; rw [List.length_map] at this; simp at this; omega)
        subst hadq
        rw [List.length_map, hdq] at hqv
        rw [hqv]
        have k0 := (R.getD (33 + s) 0).toNat_lt
        have k1 := (R.getD (33 + s + 1) 0).toNat_lt
        have k2 := (R.getD (33 + s + 2) 0).toNat_lt
        have k3 := (R.getD (33 + s + 3) 0).toNat_lt
        have k4 := (R.getD (33 + s + 4) 0).toNat_lt
        refine WL.v (Val.assign rfl rfl) ?_ -- d8
        refine WL.nil ?_
        refine Ends.next ?_
        refine CW.seq ?_
        refine CW.draw (fun w' => Below w.heap.size w w') hb09.drew ?_
        refine WH.take 0 rfl rfl (Val.move rfl rfl) ?_ -- d90
        refine WH.take 1 rfl rfl (Val.indexAddr rfl ty25 rfl rfl (by omega) (by omega)) ?_ -- d91
        refine WH.take 2 rfl rfl (Val.load rfl pl5 rfl (fun w' hS => below_cell hS (hcell 0 (bv (R.getD (33 + s) 0)) (drop_get (m := 33 + s) (j := 0) (by omega))))) ?_ -- d92
        refine WH.take 3 rfl rfl (Val.convI rfl Try.underlying5 Try.underlying26 rfl _ (IntWalk.u16_in _ (by omega))) ?_ -- d93
        refine WH.take 4 rfl rfl (Val.shl rfl rfl rfl _ (shl_nat (n := (R.getD (33 + s) 0).toNat) (s := 8) (m := 256) rfl (by decide) (by decide) (by show _ < 65536; omega))) ?_ -- d94
        refine WH.take 5 rfl rfl (Val.move rfl rfl) ?_ -- d95
        refine WH.take 6 rfl rfl (Val.indexAddr rfl ty25 rfl rfl (by omega) (by omega)) ?_ -- d96
        refine WH.take 7 rfl rfl (Val.load rfl pl5 rfl (fun w' hS => below_cell hS (hcell 1 _ (drop_get (m := 33 + s) (j := 1) (by omega))))) ?_ -- d97
        refine WH.take 8 rfl rfl (Val.convI rfl Try.underlying5 Try.underlying26 rfl _ (IntWalk.u16_in _ (by omega))) ?_ -- d98
        refine WH.take 9 rfl rfl (Val.orN (k := .u16) (a := (R.getD (33 + s) 0).toNat * 256) (b := (R.getD (33 + s + 1) 0).toNat) rfl rfl rfl rfl (by show _ < 65536; omega) (by show _ < 65536; omega) (Go.Proofs.Ytjdgckamjgldmaa.g2 R (33 + s)) (or_hi 8 rfl (by omega))) ?_ -- d99
        refine WH.take 10 rfl rfl (Val.move rfl rfl) ?_ -- d100
        refine WH.take 11 rfl rfl (Val.indexAddr rfl ty25 rfl rfl (by omega) (by omega)) ?_ -- d101
        refine WH.take 12 rfl rfl (Val.load rfl pl5 rfl (fun w' hS => below_cell hS (hcell 2 _ (drop_get (m := 33 + s) (j := 2) (by omega))))) ?_ -- d102
        refine WH.take 13 rfl rfl (Val.convI rfl Try.underlying5 Try.underlying3 rfl _ (IntWalk.i64_in _ (by omega))) ?_ -- d103
        refine WH.take 14 rfl rfl (Val.move rfl rfl) ?_ -- d104
        refine WH.take 15 rfl rfl (Val.indexAddr rfl ty25 rfl rfl (by omega) (by omega)) ?_ -- d105
        refine WH.take 16 rfl rfl (Val.load rfl pl5 rfl (fun w' hS => below_cell hS (hcell 3 _ (drop_get (m := 33 + s) (j := 3) (by omega))))) ?_ -- d106
        refine WH.take 17 rfl rfl (Val.convI rfl Try.underlying5 Try.underlying26 rfl _ (IntWalk.u16_in _ (by omega))) ?_ -- d107
        refine WH.take 18 rfl rfl (Val.shl rfl rfl rfl _ (shl_nat (n := (R.getD (33 + s + 3) 0).toNat) (s := 8) (m := 256) rfl (by decide) (by decide) (by show _ < 65536; omega))) ?_ -- d108
        refine WH.take 19 rfl rfl (Val.move rfl rfl) ?_ -- d109
        refine WH.take 20 rfl rfl (Val.indexAddr rfl ty25 rfl rfl (by omega) (by omega)) ?_ -- d110
        refine WH.take 21 rfl rfl (Val.load rfl pl5 rfl (fun w' hS => below_cell hS (hcell 4 _ (drop_get (m := 33 + s) (j := 4) (by omega))))) ?_ -- d111
        refine WH.take 22 rfl rfl (Val.convI rfl Try.underlying5 Try.underlying26 rfl _ (IntWalk.u16_in _ (by omega))) ?_ -- d112
        refine WH.take 23 rfl rfl (Val.orN (k := .u16) (a := (R.getD (33 + s + 3) 0).toNat * 256) (b := (R.getD (33 + s + 4) 0).toNat) rfl rfl rfl rfl (by show _ < 65536; omega) (by show _ < 65536; omega) (Go.Proofs.Ytjdgckamjgldmaa.g2 R (33 + s + 3)) (or_hi 8 rfl (by omega))) ?_ -- d113
        refine WH.take 24 rfl rfl (Val.fldA 10 rfl rfl (fun _ => by kernel_rfl)) ?_ -- d114
        refine WH.step 25 rfl ?_ -- n17.25
        refine WL.storeF (q := .int .u16 (Go.Proofs.Ytjdgckamjgldmaa.g2 R (33 + s) : Nat)) (Blk.drew hB9) (i := 10) rfl one26 rfl rfl rfl rfl rfl (fun w10 hB10 hw10 => ?_)
        have hb2_10 : Below w2.heap.size w2 w10 := hw10 ▸ hb29.drew.setCell (by show _ ≤ g7; omega) _
        have hb0_10 := hb12.trans (hb2_10.mono hb12.size)
        have hown10 : OwnB w10 w6.drew.heap.size (.slice As8 ((R.drop 33).take s).length cs8) ((R.drop 33).take s) := hw10 ▸ OwnB.grownBy (show OwnB w9.drew _ _ _ from hown9) (grownBy_set1 _ _ _) hne7
        refine WH.back hb0_10 ?_
        refine WH.take 26 rfl rfl (Val.fldA 11 rfl rfl (fun _ => by kernel_rfl)) ?_ -- d115
        refine WH.step 27 rfl ?_ -- n17.27
        refine WL.storeF (q := .int .i64 ((R.getD (33 + s + 2) 0).toNat : Int)) hB10 (i := 11) rfl one3 rfl rfl rfl rfl rfl (fun w11 hB11 hw11 => ?_)
        have hb2_11 : Below w2.heap.size w2 w11 := hw11 ▸ hb2_10.setCell (by show _ ≤ g7; omega) _
        have hb0_11 := hb12.trans (hb2_11.mono hb12.size)
        have hown11 : OwnB w11 w6.drew.heap.size (.slice As8 ((R.drop 33).take s).length cs8) ((R.drop 33).take s) := hw11 ▸ OwnB.grownBy hown10 (grownBy_set1 _ _ _) hne7
        refine WH.back hb0_11 ?_
        refine WH.take 28 rfl rfl (Val.fldA 12 rfl rfl (fun _ => by kernel_rfl)) ?_ -- d116
        refine WH.step 29 rfl ?_ -- n17.29
        refine WL.storeF (q := .int .u16 (Go.Proofs.Ytjdgckamjgldmaa.g2 R (33 + s + 3) : Nat)) hB11 (i := 12) rfl one26 rfl rfl rfl rfl rfl (fun w12 hB12 hw12 => ?_)
        have hb2_12 : Below w2.heap.size w2 w12 := hw12 ▸ hb2_11.setCell (by show _ ≤ g7; omega) _
        have hb0_12 := hb12.trans (hb2_12.mono hb12.size)
        have hown12 : OwnB w12 w6.drew.heap.size (.slice As8 ((R.drop 33).take s).length cs8) ((R.drop 33).take s) := hw12 ▸ OwnB.grownBy hown11 (grownBy_set1 _ _ _) hne7
        refine WH.back hb0_12 ?_
        refine WH.done ?_
        refine Ends.next ?_
        refine CW.seq ?_
        refine CW.region ?_
        have hfin : Blk w12 g7 28 (cfL (.slice An n.length cn) (.slice As8 ((R.drop 33).take s).length cs8) (mkC n R)) := by
          have e1 : (mkC n R).it = Go.Proofs.Ytjdgckamjgldmaa.g2 R (33 + s) := by rw [hs]; rfl
          have e2 : (mkC n R).h = ((R.getD (33 + s + 2) 0).toNat : Int) := by rw [hs, show 33 + (R.getD 32 0).toNat + 2 = 35 + (R.getD 32 0).toNat by omega]; rfl
          have e3 : (mkC n R).sz = Go.Proofs.Ytjdgckamjgldmaa.g2 R (33 + s + 3) := by rw [hs, show 33 + (R.getD 32 0).toNat + 3 = 36 + (R.getD 32 0).toNat by omega]; rfl
          rw [cfL, e1, e2, e3]
          exact hB12
        refine WL.v (Val.loadS Try.underlying28 (size28 _ rfl) rfl rfl (at_ hfin)) ?_
        have hB2' : Blk w12 g2 28 zeroC := hB2.keep hb2_12
        refine WL.storeS (cs' := (cfL (.slice An n.length cn) (.slice As8 ((R.drop 33).take s).length cs8) (mkC n R))) hB2' (size28 _ rfl) rfl rfl rfl rfl (cfL_one _ _ _ rfl rfl) (fun w13 hB13 hw13 => ?_)
        have hb13 : Below w.heap.size w w13 := hw13 ▸ below_setRow hb0_12 (by omega) _
        have hown13 : OwnB w13 w6.drew.heap.size (.slice As8 ((R.drop 33).take s).length cs8) ((R.drop 33).take s) := hw13 ▸ OwnB.grownBy hown12 (grownBy_row _ _ _) (own_ne hown12 (by have := hB2.lt; have := hb26.size; show g2 < w6.heap.size; omega))
        refine WL.v (Val.assign rfl rfl) ?_ -- d3
        refine WL.nil ?_
        refine Ends.next ?_
        refine CW.ret ?_
        have hnv13 : Nm w12 (.slice An n.length cn) n := hnv.keep hb2_12
        exact Ends.retS1 Try.underlying28 (size28 _ rfl) hB13 rfl rfl rfl ⟨_, by rw [hsome]; rfl, ⟨_, rfl, rfl, cfL_one _ _ _ rfl rfl⟩, fun c hc => (by
          rw [hsome] at hc
          cases hc
          have hsal : (R.drop 33).take s = (mkC n R).salt := by rw [hs]; rfl
          exact ⟨_, _, hsal ▸ rfl, Sl_row hnv13 hB2' (by intro x hx hc; obtain ⟨y, _, rfl⟩ := List.mem_map.1 hx; simp only [zeroC, List.mem_cons, List.not_mem_nil, or_false] at hc; rcases hc with h | h | h | h | h | h | h | h | h | h | h | h | h <;> cases h) hw13, hsal ▸ hown13.sl, mkC_ok _ _⟩), hb13⟩
end Go.Proofs.Ytjdgckamjgldmaa
