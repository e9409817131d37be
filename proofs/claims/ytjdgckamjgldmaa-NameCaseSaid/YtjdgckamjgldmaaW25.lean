/- Walks: NameCase. -/
import Derived.Test.YtjdgckamjgldmaaW20
import Derived.Test.YtjdgckamjgldmaaSpecR
namespace Go.Proofs.Ytjdgckamjgldmaa
open Go.RowKit Go.Eng

theorem Val.xorB {P : Program} {e : Env} {o : Oper} {S : World → Prop} {x y : Operand} {tx ty : TypeId} {a b : UInt8} (ho : o.op = .binOp .xor tx x y ty) (hx : Opd e x = some (byteV a)) (hy : Opd e y = some (byteV b)) :
    Val P e o S (byteV (a ^^^ b)) := Val.bin ho hx hy fun w => by
  have h1 : eqGuard .xor tx x y (byteV a) (byteV b) = pure () := rfl
  have h2 : binOp .xor tx (byteV a) (byteV b) = Op.intBits .xor .u8 a.toNat b.toNat := rfl
  have ha : BitVec.ofInt 8 (a.toNat : Int) = a.toBitVec := by
    apply BitVec.eq_of_toNat_eq
    simp
  have hb : BitVec.ofInt 8 (b.toNat : Int) = b.toBitVec := by
    apply BitVec.eq_of_toNat_eq
    simp
  have h3 : Op.intBits .xor .u8 a.toNat b.toNat = pure (.int .u8 (IntKind.u8.wrap ((BitVec.ofInt 8 (a.toNat : Int) ^^^ BitVec.ofInt 8 (b.toNat : Int)).toNat))) := rfl
  rw [h1, h2, h3, ha, hb, IntKind.wrap_u8]
  have h4 : (a.toBitVec ^^^ b.toBitVec).toNat = (a ^^^ b).toNat := rfl
  have h5 := (a ^^^ b).toNat_lt
  rw [h4, Sem.run_bind, Sem.run_pure, Result.andThen_ok, Sem.run_pure, byteV]
  rw [show ((a ^^^ b).toNat : Int) % 256 = ((a ^^^ b).toNat : Int) by omega]
theorem pl5 : ∀ w, (isAgg 5).run Try.prog w = .ok false w := fun _ => by kernel_rfl
theorem info4 : (Try.prog.info? 4).map (fun i => (i.zero, i.size, i.bytes)) = some (some (.bool false), 1, 1) := by kernel_rfl
theorem ty64 : ElemT Try.prog 64 4 1 (.bool false) := ⟨Try.underlying64, info_parts info4, rfl, fun _ => by kernel_rfl⟩
def lettB (c : UInt8) : Bool := decide ((97 ≤ (c.toNat : Int) ∧ (c.toNat : Int) ≤ 122) ∨ (65 ≤ (c.toNat : Int) ∧ (c.toNat : Int) ≤ 90))
def flipB (t : Bool) (c : UInt8) : UInt8 := if (t && lettB c) = true then c ^^^ 32 else c
theorem flip_all : ∀ n : Fin 256, lettB (UInt8.ofNat n.val) = true → lowB (UInt8.ofNat n.val ^^^ 32) = lowB (UInt8.ofNat n.val) := by decide +kernel
theorem low_flip (t : Bool) (c : UInt8) : lowB (flipB t c) = lowB c := by
  unfold flipB
  split
  · rename_i h
    rw [Bool.and_eq_true] at h
    have hc := flip_all ⟨c.toNat, c.toNat_lt⟩
    simp only [UInt8.ofNat_toNat] at hc
    exact hc h.2
  · rfl
/-- Letters turned, as the list says from place k on. -/
def flipL (ts : List Bool) : Nat → List UInt8 → List UInt8
  | _, [] => []
  | k, c :: r => flipB (ts.getD k false) c :: flipL ts (k + 1) r
theorem flipL_len (ts : List Bool) (l : List UInt8) : ∀ k, (flipL ts k l).length = l.length := by
  induction l with
  | nil => intro k; rfl
  | cons c l ih => intro k; simp [flipL, ih]
theorem low_flipL (ts : List Bool) (l : List UInt8) : ∀ k, (flipL ts k l).map lowB = l.map lowB := by
  induction l with
  | nil => intro k; rfl
  | cons c l ih => intro k; simp [flipL, ih, low_flip]
theorem flipL_snoc (ts : List Bool) (l : List UInt8) (c : UInt8) : ∀ k, flipL ts k (l ++ [c]) = flipL ts k l ++ [flipB (ts.getD (k + l.length) false) c] := by
  induction l with
  | nil => intro k; rfl
  | cons d l ih =>
    intro k
    simp only [List.cons_append, flipL, ih, List.length_cons]
    rw [show k + 1 + l.length = k + (l.length + 1) by omega]
/-- The first j turned. -/
def mixF (ts : List Bool) (k : Nat) (l : List UInt8) (j : Nat) : List UInt8 := flipL ts k (l.take j) ++ l.drop j
theorem mixF_len (ts : List Bool) (k : Nat) (l : List UInt8) (j : Nat) : (mixF ts k l j).length = l.length := by simp [mixF, flipL_len]; omega
theorem mixF_zero (ts : List Bool) (k : Nat) (l : List UInt8) : mixF ts k l 0 = l := by simp [mixF, flipL]
theorem mixF_all (ts : List Bool) (k : Nat) (l : List UInt8) : mixF ts k l l.length = flipL ts k l := by simp [mixF]
theorem mixF_get (ts : List Bool) (k : Nat) (l : List UInt8) (j : Nat) (hj : j < l.length) : (mixF ts k l j)[j]? = some l[j] := by
  rw [mixF, List.getElem?_append_right (by simp [flipL_len]; omega)]
  simp [flipL_len, Nat.min_eq_left (Nat.le_of_lt hj), hj]
theorem mixF_set (ts : List Bool) (k : Nat) (l : List UInt8) (j : Nat) (hj : j < l.length) : (mixF ts k l j).set j (flipB (ts.getD (k + j) false) l[j]) = mixF ts k l (j + 1) := by
  unfold mixF
  have hlen : (flipL ts k (l.take j)).length = j := by rw [flipL_len, List.length_take]; omega
  rw [List.set_append_right _ _ (by omega), hlen, Nat.sub_self, List.take_succ_eq_append_getElem hj, flipL_snoc, List.append_assoc]
  congr 1
  have hd := List.drop_eq_getElem_cons hj
  rw [hd, List.set_cons_zero, List.length_take, Nat.min_eq_left (Nat.le_of_lt hj)]
  rfl
theorem mixF_same (ts : List Bool) (k : Nat) (l : List UInt8) (j : Nat) (hj : j < l.length) (h : flipB (ts.getD (k + j) false) l[j] = l[j]) : mixF ts k l j = mixF ts k l (j + 1) := by
  rw [← mixF_set ts k l j hj, h]
  obtain ⟨h1, h2⟩ := List.getElem?_eq_some_iff.1 (mixF_get ts k l j hj)
  rw [← h2, List.set_getElem_self]
def caseN (ts : List Bool) : Nat → List ByteArray → List ByteArray
  | _, [] => []
  | k, s :: r => mkS (flipL ts k (bytes s)) :: caseN ts (k + s.size) r
theorem caseN_len (ts : List Bool) (l : List ByteArray) : ∀ k, (caseN ts k l).length = l.length := by
  induction l with
  | nil => intro k; rfl
  | cons s l ih => intro k; simp [caseN, ih]
theorem size_flip (ts : List Bool) (k : Nat) (s : ByteArray) : (mkS (flipL ts k (bytes s))).size = s.size := by rw [size_mkS, flipL_len]; rfl
theorem low_case (ts : List Bool) (l : List ByteArray) : ∀ k, (caseN ts k l).map lowS = l.map lowS := by
  induction l with
  | nil => intro k; rfl
  | cons s l ih =>
    intro k
    simp only [caseN, List.map_cons, ih]
    congr 1
    show mkS ((bytes (mkS (flipL ts k (bytes s)))).map lowB) = mkS ((bytes s).map lowB)
    rw [bytes_mkS, low_flipL]
theorem caseN_snoc (ts : List Bool) (l : List ByteArray) (s : ByteArray) : ∀ k, caseN ts k (l ++ [s]) = caseN ts k l ++ [mkS (flipL ts (k + sumS l) (bytes s))] := by
  induction l with
  | nil => intro k; rfl
  | cons t l ih =>
    intro k
    simp only [List.cons_append, caseN, ih, sumS]
    rw [show k + t.size + sumS l = k + (t.size + sumS l) by omega]
theorem case_sum (ts : List Bool) (l : List ByteArray) : ∀ k, sumS (caseN ts k l) = sumS l := by
  induction l with
  | nil => intro k; rfl
  | cons s l ih => intro k; simp only [caseN, sumS, ih, size_flip]
theorem case_all (ts : List Bool) (p : Nat → Bool) (l : List ByteArray) : ∀ k, (caseN ts k l).all (fun s => p s.size) = l.all (fun s => p s.size) := by
  induction l with
  | nil => intro k; rfl
  | cons s l ih => intro k; simp only [caseN, List.all_cons, ih, size_flip]
theorem case_right (ts : List Bool) (l : List ByteArray) (k : Nat) : rightN (caseN ts k l) = rightN l := by
  unfold rightN
  rw [caseN_len, case_sum, case_all ts (fun n => decide (n ≠ 0 ∧ n ≤ 63))]
theorem right_ok {l : List ByteArray} (h : rightN l = true) : OkN l := by
  obtain ⟨h1, h2, _⟩ := right_parts h
  exact ⟨by omega, fun s hs => by have := h2 s hs; omega⟩
-- signet/signetlaw3.NameCase
theorem case13 (vn vt : Value) (n : List ByteArray) (ts : List Bool) (w : World) (hn : Nm w vn n) (ht : Sl w vt (ts.map .bool)) : Runs Try.prog 13 #[vn, vt] w fun r w' => r = .bool true ∧ Below w.heap.size w w' := by
  obtain ⟨A, c, hv, -⟩ := id hn
  rw [List.length_map] at hv
  subst hv
  obtain ⟨A', c', hv', -⟩ := id ht
  rw [List.length_map] at hv'
  subst hv'
  refine enter (N := 126) (args := [_, _]) Try.func13 rfl rfl (Nat.le_of_ble_eq_true rfl) ?_
  refine CW.seq ?_
  refine CW.region ?_
  refine WL.v (Val.assign rfl rfl) ?_ -- d4
  refine WL.nil ?_
  refine Ends.next ?_
  refine CW.seq ?_
  refine CW.seq ?_
  refine CW.region ?_
  refine WL.call bodied25 rfl rfl (known25 w) ?_
  rintro _ w1 ⟨rfl, hb1⟩
  have hn1 := hn.keep hb1
  have ht1 := ht.below hb1
  refine WL.v (Val.not rfl rfl) ?_ -- d13
  refine WL.nil ?_
  refine Ends.next ?_
  refine CW.condF rfl (rfl) ?_
  refine CW.skip ?_
  refine Ends.next ?_
  refine CW.seq ?_
  refine CW.seq ?_
  refine CW.region ?_
  refine WL.v (Val.move rfl rfl) ?_ -- d14
  refine WL.call bodied31 rfl rfl (right31 _ _ _ hn1) ?_
  rintro _ _ ⟨rfl, rfl⟩
  refine WL.v (Val.not rfl rfl) ?_ -- d16
  refine WL.v (Val.move rfl rfl) ?_ -- d17
  refine WL.or (j := 3) (seg := [_, _, _]) (r := decide (300 < (ts.length : Int))) rfl rfl rfl rfl (fun hb21 HK21 => ?hT1) ?_
  case hT1 =>
    refine WL.yes rfl rfl rfl hb21 ?_
    refine WL.v (Val.move rfl rfl) ?_ -- d18
    refine WL.yes rfl rfl rfl hb21 ?_
    refine WL.v (Val.lenSl rfl Try.underlying64 rfl) ?_ -- d19
    refine WL.yes rfl rfl rfl hb21 ?_
    refine WL.v (Val.gtr rfl rfl rfl) ?_ -- d20
    refine WL.v (Val.pickF rfl rfl hb21 rfl) ?_
    refine WL.forget rfl ?_; refine WL.forget rfl ?_; refine WL.forget rfl ?_
    exact HK21
  refine WL.nil ?_
  refine Ends.next ?_
  refine CW.cond rfl (fun hc1 => ?_) (fun hc1 => ?_)
  · -- yes
    refine CW.seq ?_
    refine CW.region ?_
    refine WL.v (Val.assign rfl rfl) ?_ -- d4
    refine WL.nil ?_
    refine Ends.next ?_
    refine CW.ret ?_
    refine Ends.seqr ?_
    exact Ends.ret1 rfl rfl ⟨rfl, hb1⟩
  · -- no
    simp only [Bool.or_eq_false_iff, Bool.not_eq_false', decide_eq_false_iff_not] at hc1
    obtain ⟨hr, htl⟩ := hc1
    obtain ⟨p1, p2, p3⟩ := right_parts hr
    have hsz1 := hb1.size
    refine CW.skip ?_
    refine Ends.next ?_
    refine CW.seq ?_
    refine CW.region ?_
    refine WL.v (Val.assign rfl rfl) ?_ -- d5
    refine WL.nil ?_
    refine Ends.next ?_
    refine CW.seq ?_
    refine CW.region ?_
    refine WL.v (Val.assign rfl rfl) ?_ -- d6
    refine WL.nil ?_
    refine Ends.next ?_
    refine CW.seq ?_
    refine CW.seq ?_
    refine CW.region ?_
    refine WL.v (Val.assign rfl rfl) ?_ -- d7
    refine WL.nil ?_
    refine Ends.next ?_
    refine CW.block ?_
    refine CW.loop (α := Value × Nat) (fun x => [(0, .slice A n.length c), (1, .slice A' ts.length c'), (5, x.1), (6, .int .i64 (sumS (n.take x.2) : Nat)), (7, .int .i64 x.2)]) (fun x w2 => x.2 ≤ n.length ∧ OwnN w2 w.heap.size x.1 (caseN ts 0 (n.take x.2)) ∧ Below w.heap.size w w2) (fun x => n.length - x.2) (.slice none 0 0, 0) ⟨rfl, rfl, rfl, rfl, rfl, trivial⟩ ⟨Nat.zero_le _, OwnN.nil _ _, hb1⟩ ?_
    rintro ⟨mv, i⟩ w2 ⟨hi, hown0, hbw⟩
    dsimp only at hi hown0 ⊢
    have hsz := hbw.size
    have hn2 := hn.keep hbw
    have ht2 := ht.below hbw
    have hsl := sumS_le n i
    refine CW.seq ?_
    refine CW.seq ?_
    refine CW.region ?_
    refine WL.v (Val.move rfl rfl) ?_ -- d22
    refine WL.v (Val.move rfl rfl) ?_ -- d23
    refine WL.v (Val.lenSl rfl Try.underlying23 rfl) ?_ -- d24
    refine WL.v (Val.lss rfl rfl rfl) ?_ -- d25
    refine WL.nil ?_
    refine Ends.next ?_
    refine CW.condD rfl (fun hc2 => ?_) (fun hc2 => ?_)
    · -- yes
      have hlt : i < n.length := by omega
      have hpi := p2 _ (List.getElem_mem hlt)
      have hst := sumS_take n i hlt
      have hsl1 := sumS_le n (i + 1)
      refine CW.skip ?_
      refine Ends.next ?_
      refine CW.seq ?_
      refine CW.block ?_
      refine CW.seq ?_
      refine CW.region ?_
      refine WL.v (Val.move rfl rfl) ?_ -- d28
      refine WL.v (Val.move rfl rfl) ?_ -- d29
      refine WL.elem ty23 hn2 rfl rfl rfl rfl (by omega) (v := sv n[i]) (by simp [hlt]) (fun _ => ?_)
      refine WL.toBytes Try.underlying9 Try.underlying25 Try.underlying5 rfl rfl (fun lv w3 hownl hb3 => ?_)
      obtain ⟨Al, cl, hlv, -⟩ := id hownl.sl
      rw [List.length_map] at hlv
      subst hlv
      have hown3 := hown0.keep hb3
      refine WL.v (Val.assign rfl rfl) ?_ -- d8
      refine WL.nil ?_
      refine Ends.next ?_
      refine CW.seq ?_
      refine CW.seq ?_
      refine CW.region ?_
      refine WL.v (Val.assign rfl rfl) ?_ -- d9
      refine WL.nil ?_
      refine Ends.next ?_
      refine CW.block ?_
      refine CW.loop (α := Nat) (fun j => [(0, .slice A n.length c), (1, .slice A' ts.length c'), (5, mv), (6, .int .i64 (sumS (n.take i) + j : Nat)), (7, .int .i64 i), (8, .slice Al (bytes n[i]).length cl), (9, .int .i64 j)]) (fun j w4 => j ≤ (bytes n[i]).length ∧ OwnF w4 w2.heap.size 5 (.slice Al (bytes n[i]).length cl) ((mixF ts (sumS (n.take i)) (bytes n[i]) j).map bv) ∧ Below w2.heap.size w2 w4) (fun j => (bytes n[i]).length - j) 0 ⟨rfl, rfl, rfl, rfl, rfl, rfl, rfl, trivial⟩ ⟨Nat.zero_le _, by rw [mixF_zero]; exact hownl, hb3⟩ ?_
      rintro j w4 ⟨hj, hown, hbl⟩
      have hn4 := hn2.keep hbl
      have ht4 := ht2.below hbl
      have hblen := bytes_length n[i]
      refine CW.seq ?_
      refine CW.seq ?_
      refine CW.region ?_
      refine WL.v (Val.move rfl rfl) ?_ -- d33
      refine WL.v (Val.move rfl rfl) ?_ -- d34
      refine WL.v (Val.lenSl rfl Try.underlying25 rfl) ?_ -- d35
      refine WL.v (Val.lss rfl rfl rfl) ?_ -- d36
      refine WL.nil ?_
      refine Ends.next ?_
      refine CW.condD rfl (fun hc3 => ?_) (fun hc3 => ?_)
      · -- yes
        have hjt : j < (bytes n[i]).length := by omega
        have hbt := (bytes n[i])[j].toNat_lt
        refine CW.skip ?_
        refine Ends.next ?_
        refine CW.seq ?_
        refine CW.block ?_
        refine CW.seq ?_
        refine CW.seq ?_
        refine CW.region ?_
        refine WL.v (Val.move rfl rfl) ?_ -- d39
        refine WL.v (Val.move rfl rfl) ?_ -- d40
        refine WL.v (Val.lenSl rfl Try.underlying64 rfl) ?_ -- d41
        refine WL.v (Val.lss rfl rfl rfl) ?_ -- d42
        refine WL.v (Val.move rfl rfl) ?_ -- d43
        refine WL.and (j := 4) (seg := [_, _, _, _]) (r := ts.getD (sumS (n.take i) + j) false) rfl rfl rfl rfl (fun hb48 HK48 => ?hT2) ?_
        case hT2 =>
          refine WL.yes rfl rfl rfl hb48 ?_
          have hk : sumS (n.take i) + j < ts.length := by simp at hb48; omega
          obtain ⟨adt, hat, hcell⟩ := Sl.elem ht4 (i := sumS (n.take i) + j) (u := .bool (ts.getD (sumS (n.take i) + j) false)) (by simp [List.getD_eq_getElem?_getD, hk])
          subst hat
          refine WL.v (Val.move rfl rfl) ?_
          refine WL.yes rfl rfl rfl hb48 ?_
          refine WL.v (Val.move rfl rfl) ?_ -- d45
          refine WL.yes rfl rfl rfl hb48 ?_
          refine WL.v (Val.indexAddr rfl ty64 rfl rfl (by omega) (by omega)) ?_ -- d46
          refine WL.yes rfl rfl rfl hb48 ?_
          refine WL.v (Val.load rfl pl4 rfl (at_ hcell)) ?_
          refine WL.v (Val.pickT rfl rfl hb48 rfl) ?_
          refine WL.forget rfl ?_; refine WL.forget rfl ?_; refine WL.forget rfl ?_; refine WL.forget rfl ?_
          exact HK48
        refine WL.know 48 (.bool (ts.getD (sumS (n.take i) + j) false)) rfl (congrArg Value.bool ?hT48) ?_
        case hT48 =>
          by_cases hk : sumS (n.take i) + j < ts.length
          · rw [decide_eq_true (by omega), Bool.true_and]
          · rw [decide_eq_false (by omega), Bool.false_and, List.getD_eq_getElem?_getD, List.getElem?_eq_none (by omega)]
            rfl
        refine WL.fork (rest := []) (e' := [(0, .slice A n.length c), (1, .slice A' ts.length c'), (5, mv), (6, .int .i64 (sumS (n.take i) + j : Nat)), (7, .int .i64 i), (8, .slice Al (bytes n[i]).length cl), (9, .int .i64 j), (76, (.bool (ts.getD (sumS (n.take i) + j) false && lettB (bytes n[i])[j])))]) ?_ (fun tail => ?_)
        rotate_left
        · -- the branches
          obtain ⟨ad, rfl, hcell⟩ := Sl.elem hown.sl (i := j) (u := bv (bytes n[i])[j]) (by rw [List.getElem?_map, mixF_get _ _ _ _ hjt]; rfl)
          rcases Bool.eq_false_or_eq_true (ts.getD (sumS (n.take i) + j) false) with ht | ht
          · -- true
            by_cases h97 : 97 ≤ ((bytes n[i])[j].toNat : Int)
            · -- yes
              by_cases h122 : ((bytes n[i])[j].toNat : Int) ≤ 122
              · -- yes
                refine WL.v (Val.move rfl rfl) ?_ -- d49
                refine WL.yes rfl rfl rfl (ht) ?_
                refine WL.v (Val.move rfl rfl) ?_ -- d50
                refine WL.yes rfl rfl rfl (ht) ?_
                refine WL.v (Val.move rfl rfl) ?_ -- d51
                refine WL.yes rfl rfl rfl (ht) ?_
                refine WL.v (Val.indexAddr rfl ty25 rfl rfl (by omega) (by omega)) ?_ -- d52
                refine WL.yes rfl rfl rfl (ht) ?_
                refine WL.v (Val.load rfl pl5 rfl (at_ hcell)) ?_
                refine WL.yes rfl rfl rfl (ht) ?_
                refine WL.v (Val.geq rfl rfl rfl) ?_ -- d54
                refine WL.yes rfl rfl rfl (ht) ?_
                refine WL.v (Val.move rfl rfl) ?_ -- d55
                refine WL.yes rfl rfl rfl (decide_eq_true h97) ?_
                refine WL.v (Val.move rfl rfl) ?_ -- d56
                refine WL.yes rfl rfl rfl (decide_eq_true h97) ?_
                refine WL.v (Val.move rfl rfl) ?_ -- d57
                refine WL.yes rfl rfl rfl (decide_eq_true h97) ?_
                refine WL.v (Val.indexAddr rfl ty25 rfl rfl (by omega) (by omega)) ?_ -- d58
                refine WL.yes rfl rfl rfl (decide_eq_true h97) ?_
                refine WL.v (Val.load rfl pl5 rfl (at_ hcell)) ?_
                refine WL.yes rfl rfl rfl (decide_eq_true h97) ?_
                refine WL.v (Val.leq rfl rfl rfl) ?_ -- d60
                refine WL.yes rfl rfl rfl (ht) ?_
                refine WL.v (Val.pickT rfl rfl (decide_eq_true h97) rfl) ?_ -- d61
                refine WL.yes rfl rfl rfl (ht) ?_
                refine WL.v (Val.move rfl rfl) ?_ -- d62
                refine WL.noB rfl rfl rfl (decide_eq_true h122) ?_
                refine WL.noB rfl rfl rfl (decide_eq_true h122) ?_
                refine WL.noB rfl rfl rfl (decide_eq_true h122) ?_
                refine WL.noB rfl rfl rfl (decide_eq_true h122) ?_
                refine WL.noB rfl rfl rfl (decide_eq_true h122) ?_
                refine WL.noB rfl rfl rfl (decide_eq_true h122) ?_
                refine WL.no (v := undef) rfl rfl rfl (by simp [undef]) rfl (by decide) ?_
                refine WL.no (v := undef) rfl rfl rfl (by simp [undef]) rfl (by decide) ?_
                refine WL.no (v := undef) rfl rfl rfl (by simp [undef]) rfl (by decide) ?_
                refine WL.no (v := undef) rfl rfl rfl (by simp [undef]) rfl (by decide) ?_
                refine WL.no (v := undef) rfl rfl rfl (by simp [undef]) rfl (by decide) ?_
                refine WL.noB rfl rfl rfl (decide_eq_true h122) ?_
                refine WL.yes rfl rfl rfl (ht) ?_
                refine WL.v (Val.pickT rfl rfl (decide_eq_true h122) rfl) ?_ -- d75
                refine WL.v (Val.pickT rfl rfl (ht) rfl) ?_ -- d76
                refine WL.know 76 (.bool (ts.getD (sumS (n.take i) + j) false && lettB (bytes n[i])[j])) rfl (congrArg Value.bool (by rw [ht, Bool.true_and, lettB]; exact (decide_eq_true (by omega)).symm)) ?_
                refine WL.sub _ ?_ tail
                exact ⟨rfl, rfl, rfl, rfl, rfl, rfl, rfl, rfl, trivial⟩
              · -- no
                refine WL.v (Val.move rfl rfl) ?_ -- d49
                refine WL.yes rfl rfl rfl (ht) ?_
                refine WL.v (Val.move rfl rfl) ?_ -- d50
                refine WL.yes rfl rfl rfl (ht) ?_
                refine WL.v (Val.move rfl rfl) ?_ -- d51
                refine WL.yes rfl rfl rfl (ht) ?_
                refine WL.v (Val.indexAddr rfl ty25 rfl rfl (by omega) (by omega)) ?_ -- d52
                refine WL.yes rfl rfl rfl (ht) ?_
                refine WL.v (Val.load rfl pl5 rfl (at_ hcell)) ?_
                refine WL.yes rfl rfl rfl (ht) ?_
                refine WL.v (Val.geq rfl rfl rfl) ?_ -- d54
                refine WL.yes rfl rfl rfl (ht) ?_
                refine WL.v (Val.move rfl rfl) ?_ -- d55
                refine WL.yes rfl rfl rfl (decide_eq_true h97) ?_
                refine WL.v (Val.move rfl rfl) ?_ -- d56
                refine WL.yes rfl rfl rfl (decide_eq_true h97) ?_
                refine WL.v (Val.move rfl rfl) ?_ -- d57
                refine WL.yes rfl rfl rfl (decide_eq_true h97) ?_
                refine WL.v (Val.indexAddr rfl ty25 rfl rfl (by omega) (by omega)) ?_ -- d58
                refine WL.yes rfl rfl rfl (decide_eq_true h97) ?_
                refine WL.v (Val.load rfl pl5 rfl (at_ hcell)) ?_
                refine WL.yes rfl rfl rfl (decide_eq_true h97) ?_
                refine WL.v (Val.leq rfl rfl rfl) ?_ -- d60
                refine WL.yes rfl rfl rfl (ht) ?_
                refine WL.v (Val.pickT rfl rfl (decide_eq_true h97) rfl) ?_ -- d61
                refine WL.yes rfl rfl rfl (ht) ?_
                refine WL.v (Val.move rfl rfl) ?_ -- d62
                refine WL.yes rfl rfl rfl (decide_eq_false h122) ?_
                refine WL.v (Val.move rfl rfl) ?_ -- d63
                refine WL.yes rfl rfl rfl (decide_eq_false h122) ?_
                refine WL.v (Val.move rfl rfl) ?_ -- d64
                refine WL.yes rfl rfl rfl (decide_eq_false h122) ?_
                refine WL.v (Val.indexAddr rfl ty25 rfl rfl (by omega) (by omega)) ?_ -- d65
                refine WL.yes rfl rfl rfl (decide_eq_false h122) ?_
                refine WL.v (Val.load rfl pl5 rfl (at_ hcell)) ?_
                refine WL.yes rfl rfl rfl (decide_eq_false h122) ?_
                refine WL.v (Val.geq rfl rfl rfl) ?_ -- d67
                refine WL.yes rfl rfl rfl (decide_eq_false h122) ?_
                refine WL.v (Val.move rfl rfl) ?_ -- d68
                refine WL.yes rfl rfl rfl (decide_eq_true (show 65 ≤ _ by omega)) ?_
                refine WL.v (Val.move rfl rfl) ?_ -- d69
                refine WL.yes rfl rfl rfl (decide_eq_true (show 65 ≤ _ by omega)) ?_
                refine WL.v (Val.move rfl rfl) ?_ -- d70
                refine WL.yes rfl rfl rfl (decide_eq_true (show 65 ≤ _ by omega)) ?_
                refine WL.v (Val.indexAddr rfl ty25 rfl rfl (by omega) (by omega)) ?_ -- d71
                refine WL.yes rfl rfl rfl (decide_eq_true (show 65 ≤ _ by omega)) ?_
                refine WL.v (Val.load rfl pl5 rfl (at_ hcell)) ?_
                refine WL.yes rfl rfl rfl (decide_eq_true (show 65 ≤ _ by omega)) ?_
                refine WL.v (Val.leq rfl rfl rfl) ?_ -- d73
                refine WL.yes rfl rfl rfl (decide_eq_false h122) ?_
                refine WL.v (Val.pickT rfl rfl (decide_eq_true (show 65 ≤ _ by omega)) rfl) ?_ -- d74
                refine WL.yes rfl rfl rfl (ht) ?_
                refine WL.v (Val.pickF rfl rfl (decide_eq_false h122) rfl) ?_ -- d75
                refine WL.v (Val.pickT rfl rfl (ht) rfl) ?_ -- d76
                refine WL.know 76 (.bool (ts.getD (sumS (n.take i) + j) false && lettB (bytes n[i])[j])) rfl (congrArg Value.bool (by rw [ht, Bool.true_and, lettB]; exact (decide_eq_false (by omega)).trans (decide_eq_false (by omega)).symm)) ?_
                refine WL.sub _ ?_ tail
                exact ⟨rfl, rfl, rfl, rfl, rfl, rfl, rfl, rfl, trivial⟩
            · -- no
              by_cases h65 : 65 ≤ ((bytes n[i])[j].toNat : Int)
              · -- yes
                refine WL.v (Val.move rfl rfl) ?_ -- d49
                refine WL.yes rfl rfl rfl (ht) ?_
                refine WL.v (Val.move rfl rfl) ?_ -- d50
                refine WL.yes rfl rfl rfl (ht) ?_
                refine WL.v (Val.move rfl rfl) ?_ -- d51
                refine WL.yes rfl rfl rfl (ht) ?_
                refine WL.v (Val.indexAddr rfl ty25 rfl rfl (by omega) (by omega)) ?_ -- d52
                refine WL.yes rfl rfl rfl (ht) ?_
                refine WL.v (Val.load rfl pl5 rfl (at_ hcell)) ?_
                refine WL.yes rfl rfl rfl (ht) ?_
                refine WL.v (Val.geq rfl rfl rfl) ?_ -- d54
                refine WL.yes rfl rfl rfl (ht) ?_
                refine WL.v (Val.move rfl rfl) ?_ -- d55
                refine WL.noB rfl rfl rfl (decide_eq_false h97) ?_
                refine WL.noB rfl rfl rfl (decide_eq_false h97) ?_
                refine WL.noB rfl rfl rfl (decide_eq_false h97) ?_
                refine WL.noB rfl rfl rfl (decide_eq_false h97) ?_
                refine WL.noB rfl rfl rfl (decide_eq_false h97) ?_
                refine WL.yes rfl rfl rfl (ht) ?_
                refine WL.v (Val.pickF rfl rfl (decide_eq_false h97) rfl) ?_ -- d61
                refine WL.yes rfl rfl rfl (ht) ?_
                refine WL.v (Val.move rfl rfl) ?_ -- d62
                refine WL.yes rfl rfl rfl (rfl) ?_
                refine WL.v (Val.move rfl rfl) ?_ -- d63
                refine WL.yes rfl rfl rfl (rfl) ?_
                refine WL.v (Val.move rfl rfl) ?_ -- d64
                refine WL.yes rfl rfl rfl (rfl) ?_
                refine WL.v (Val.indexAddr rfl ty25 rfl rfl (by omega) (by omega)) ?_ -- d65
                refine WL.yes rfl rfl rfl (rfl) ?_
                refine WL.v (Val.load rfl pl5 rfl (at_ hcell)) ?_
                refine WL.yes rfl rfl rfl (rfl) ?_
                refine WL.v (Val.geq rfl rfl rfl) ?_ -- d67
                refine WL.yes rfl rfl rfl (rfl) ?_
                refine WL.v (Val.move rfl rfl) ?_ -- d68
                refine WL.yes rfl rfl rfl (decide_eq_true h65) ?_
                refine WL.v (Val.move rfl rfl) ?_ -- d69
                refine WL.yes rfl rfl rfl (decide_eq_true h65) ?_
                refine WL.v (Val.move rfl rfl) ?_ -- d70
                refine WL.yes rfl rfl rfl (decide_eq_true h65) ?_
                refine WL.v (Val.indexAddr rfl ty25 rfl rfl (by omega) (by omega)) ?_ -- d71
                refine WL.yes rfl rfl rfl (decide_eq_true h65) ?_
                refine WL.v (Val.load rfl pl5 rfl (at_ hcell)) ?_
                refine WL.yes rfl rfl rfl (decide_eq_true h65) ?_
                refine WL.v (Val.leq rfl rfl rfl) ?_ -- d73
                refine WL.yes rfl rfl rfl (rfl) ?_
                refine WL.v (Val.pickT rfl rfl (decide_eq_true h65) rfl) ?_ -- d74
                refine WL.yes rfl rfl rfl (ht) ?_
                refine WL.v (Val.pickF rfl rfl (rfl) rfl) ?_ -- d75
                refine WL.v (Val.pickT rfl rfl (ht) rfl) ?_ -- d76
                refine WL.know 76 (.bool (ts.getD (sumS (n.take i) + j) false && lettB (bytes n[i])[j])) rfl (congrArg Value.bool (by rw [ht, Bool.true_and, lettB]; exact decide_eq_decide.2 (by omega))) ?_
                refine WL.sub _ ?_ tail
                exact ⟨rfl, rfl, rfl, rfl, rfl, rfl, rfl, rfl, trivial⟩
              · -- no
                refine WL.v (Val.move rfl rfl) ?_ -- d49
                refine WL.yes rfl rfl rfl (ht) ?_
                refine WL.v (Val.move rfl rfl) ?_ -- d50
                refine WL.yes rfl rfl rfl (ht) ?_
                refine WL.v (Val.move rfl rfl) ?_ -- d51
                refine WL.yes rfl rfl rfl (ht) ?_
                refine WL.v (Val.indexAddr rfl ty25 rfl rfl (by omega) (by omega)) ?_ -- d52
                refine WL.yes rfl rfl rfl (ht) ?_
                refine WL.v (Val.load rfl pl5 rfl (at_ hcell)) ?_
                refine WL.yes rfl rfl rfl (ht) ?_
                refine WL.v (Val.geq rfl rfl rfl) ?_ -- d54
                refine WL.yes rfl rfl rfl (ht) ?_
                refine WL.v (Val.move rfl rfl) ?_ -- d55
                refine WL.noB rfl rfl rfl (decide_eq_false h97) ?_
                refine WL.noB rfl rfl rfl (decide_eq_false h97) ?_
                refine WL.noB rfl rfl rfl (decide_eq_false h97) ?_
                refine WL.noB rfl rfl rfl (decide_eq_false h97) ?_
                refine WL.noB rfl rfl rfl (decide_eq_false h97) ?_
                refine WL.yes rfl rfl rfl (ht) ?_
                refine WL.v (Val.pickF rfl rfl (decide_eq_false h97) rfl) ?_ -- d61
                refine WL.yes rfl rfl rfl (ht) ?_
                refine WL.v (Val.move rfl rfl) ?_ -- d62
                refine WL.yes rfl rfl rfl (rfl) ?_
                refine WL.v (Val.move rfl rfl) ?_ -- d63
                refine WL.yes rfl rfl rfl (rfl) ?_
                refine WL.v (Val.move rfl rfl) ?_ -- d64
                refine WL.yes rfl rfl rfl (rfl) ?_
                refine WL.v (Val.indexAddr rfl ty25 rfl rfl (by omega) (by omega)) ?_ -- d65
                refine WL.yes rfl rfl rfl (rfl) ?_
                refine WL.v (Val.load rfl pl5 rfl (at_ hcell)) ?_
                refine WL.yes rfl rfl rfl (rfl) ?_
                refine WL.v (Val.geq rfl rfl rfl) ?_ -- d67
                refine WL.yes rfl rfl rfl (rfl) ?_
                refine WL.v (Val.move rfl rfl) ?_ -- d68
                refine WL.noB rfl rfl rfl (decide_eq_false h65) ?_
                refine WL.noB rfl rfl rfl (decide_eq_false h65) ?_
                refine WL.noB rfl rfl rfl (decide_eq_false h65) ?_
                refine WL.noB rfl rfl rfl (decide_eq_false h65) ?_
                refine WL.noB rfl rfl rfl (decide_eq_false h65) ?_
                refine WL.yes rfl rfl rfl (rfl) ?_
                refine WL.v (Val.pickF rfl rfl (decide_eq_false h65) rfl) ?_ -- d74
                refine WL.yes rfl rfl rfl (ht) ?_
                refine WL.v (Val.pickF rfl rfl (rfl) rfl) ?_ -- d75
                refine WL.v (Val.pickT rfl rfl (ht) rfl) ?_ -- d76
                refine WL.know 76 (.bool (ts.getD (sumS (n.take i) + j) false && lettB (bytes n[i])[j])) rfl (congrArg Value.bool (by rw [ht, Bool.true_and, lettB]; exact (decide_eq_false (by omega)).symm)) ?_
                refine WL.sub _ ?_ tail
                exact ⟨rfl, rfl, rfl, rfl, rfl, rfl, rfl, rfl, trivial⟩
          · -- false
            refine WL.v (Val.move rfl rfl) ?_ -- d49
            refine WL.noB rfl rfl rfl (ht) ?_
            refine WL.noB rfl rfl rfl (ht) ?_
            refine WL.noB rfl rfl rfl (ht) ?_
            refine WL.noB rfl rfl rfl (ht) ?_
            refine WL.noB rfl rfl rfl (ht) ?_
            refine WL.noB rfl rfl rfl (ht) ?_
            refine WL.no (v := undef) rfl rfl rfl (by simp [undef]) rfl (by decide) ?_
            refine WL.no (v := undef) rfl rfl rfl (by simp [undef]) rfl (by decide) ?_
            refine WL.no (v := undef) rfl rfl rfl (by simp [undef]) rfl (by decide) ?_
            refine WL.no (v := undef) rfl rfl rfl (by simp [undef]) rfl (by decide) ?_
            refine WL.no (v := undef) rfl rfl rfl (by simp [undef]) rfl (by decide) ?_
            refine WL.noB rfl rfl rfl (ht) ?_
            refine WL.noB rfl rfl rfl (ht) ?_
            refine WL.no (v := undef) rfl rfl rfl (by simp [undef]) rfl (by decide) ?_
            refine WL.no (v := undef) rfl rfl rfl (by simp [undef]) rfl (by decide) ?_
            refine WL.no (v := undef) rfl rfl rfl (by simp [undef]) rfl (by decide) ?_
            refine WL.no (v := undef) rfl rfl rfl (by simp [undef]) rfl (by decide) ?_
            refine WL.no (v := undef) rfl rfl rfl (by simp [undef]) rfl (by decide) ?_
            refine WL.no (v := undef) rfl rfl rfl (by simp [undef]) rfl (by decide) ?_
            refine WL.no (v := undef) rfl rfl rfl (by simp [undef]) rfl (by decide) ?_
            refine WL.no (v := undef) rfl rfl rfl (by simp [undef]) rfl (by decide) ?_
            refine WL.no (v := undef) rfl rfl rfl (by simp [undef]) rfl (by decide) ?_
            refine WL.no (v := undef) rfl rfl rfl (by simp [undef]) rfl (by decide) ?_
            refine WL.no (v := undef) rfl rfl rfl (by simp [undef]) rfl (by decide) ?_
            refine WL.no (v := undef) rfl rfl rfl (by simp [undef]) rfl (by decide) ?_
            refine WL.noB rfl rfl rfl (ht) ?_
            refine WL.v (Val.pickF rfl rfl (ht) rfl) ?_ -- d76
            refine WL.know 76 (.bool (ts.getD (sumS (n.take i) + j) false && lettB (bytes n[i])[j])) rfl (congrArg Value.bool (by rw [ht, Bool.false_and])) ?_
            refine WL.sub _ ?_ tail
            exact ⟨rfl, rfl, rfl, rfl, rfl, rfl, rfl, rfl, trivial⟩
        refine WL.nil ?_
        refine Ends.next ?_
        refine CW.cond rfl (fun hc4 => ?_) (fun hc4 => ?_)
        · -- yes
          refine CW.region ?_
          refine WL.v (Val.move rfl rfl) ?_ -- d77
          refine WL.v (Val.move rfl rfl) ?_ -- d78
          refine WL.elem ty25 hown.sl rfl rfl rfl rfl (by omega) (v := bv (bytes n[i])[j]) (by rw [Int.toNat_natCast, List.getElem?_map, mixF_get _ _ _ _ hjt]; rfl) (fun _ => ?_)
          refine WL.v (Val.xorB (a := (bytes n[i])[j]) (b := 32) rfl rfl rfl) ?_
          refine WL.setElem (u := bv (flipB (ts.getD (sumS (n.take i) + j) false) (bytes n[i])[j])) ty25 hown rfl rfl rfl rfl (fun q => ?_) rfl rfl (by omega) (by rw [List.length_map, mixF_len]; exact hjt) (fun q w5 hown5 hb5 => ?_)
          · simp only [Opd, Env.get, flipB, hc4, if_true]
          refine WL.nil ?_
          refine Ends.next ?_
          refine CW.region ?_
          refine WL.v (Val.move rfl rfl) ?_ -- d83
          refine WL.v (Val.add rfl rfl rfl ((sumS (n.take i) + (j + 1) : Nat) : Int) (i64_eq (by omega) (by omega))) ?_
          refine WL.v (Val.assign rfl rfl) ?_ -- d6
          refine WL.nil ?_
          refine Ends.blkn ?_
          refine Ends.next ?_
          refine CW.region ?_
          refine WL.v (Val.move rfl rfl) ?_ -- d37
          refine WL.v (Val.add rfl rfl rfl _ (IntWalk.i64_in _ (by omega))) ?_ -- d38
          refine WL.v (Val.assign rfl rfl) ?_ -- d9
          refine WL.nil ?_
          first
            | exact Ends.round (j + 1) (by omega) ⟨rfl, rfl, rfl, rfl, rfl, rfl, rfl, trivial⟩ ⟨hjt, by rw [← mixF_set _ _ _ _ hjt, List.map_set]; exact hown5, hbl.trans hb5⟩
            | exact Ends.round (j + 1) (by omega) ⟨rfl, rfl, rfl, rfl, rfl, rfl, rfl, trivial⟩ ⟨hjt, by rw [← mixF_same _ _ _ _ hjt (by rw [flipB, if_neg (by rw [hc4]; decide)])]; exact hown, hbl⟩
        · -- no
          refine CW.skip ?_
          refine Ends.next ?_
          refine CW.region ?_
          refine WL.v (Val.move rfl rfl) ?_ -- d83
          refine WL.v (Val.add rfl rfl rfl ((sumS (n.take i) + (j + 1) : Nat) : Int) (i64_eq (by omega) (by omega))) ?_
          refine WL.v (Val.assign rfl rfl) ?_ -- d6
          refine WL.nil ?_
          refine Ends.blkn ?_
          refine Ends.next ?_
          refine CW.region ?_
          refine WL.v (Val.move rfl rfl) ?_ -- d37
          refine WL.v (Val.add rfl rfl rfl _ (IntWalk.i64_in _ (by omega))) ?_ -- d38
          refine WL.v (Val.assign rfl rfl) ?_ -- d9
          refine WL.nil ?_
          first
            | exact Ends.round (j + 1) (by omega) ⟨rfl, rfl, rfl, rfl, rfl, rfl, rfl, trivial⟩ ⟨hjt, by rw [← mixF_set _ _ _ _ hjt, List.map_set]; exact hown5, hbl.trans hb5⟩
            | exact Ends.round (j + 1) (by omega) ⟨rfl, rfl, rfl, rfl, rfl, rfl, rfl, trivial⟩ ⟨hjt, by rw [← mixF_same _ _ _ _ hjt (by rw [flipB, if_neg (by rw [hc4]; decide)])]; exact hown, hbl⟩
      · -- no
        have hjl : j = (bytes n[i]).length := by omega
        rw [hjl, mixF_all] at hown
        have hown4 : OwnN w4 w.heap.size mv (caseN ts 0 (n.take i)) := hown0.keep hbl
        have hs4 := Nat.le_trans hsz hbl.size
        refine CW.exit ?_
        refine Ends.seqx ?_
        refine Ends.seqx ?_
        refine Ends.blke ?_
        refine Ends.next ?_
        refine CW.region ?_
        refine WL.v (Val.move rfl rfl) ?_ -- d85
        refine WL.v (Val.move rfl rfl) ?_ -- d86
        refine WL.v (Val.toStr (l := flipL ts (sumS (n.take i)) (bytes n[i])) Try.underlying25 Try.underlying9 Try.underlying5 rfl rfl (at_ hown.sl)) ?_
        refine WL.build1 ty23 rfl rfl rfl ?_
        refine WL.apN (mkS (flipL ts (sumS (n.take i)) (bytes n[i]))) hown4 rfl rfl rfl (by rw [caseN_len, List.length_take]; omega) hs4 (fun v6 w6 hown6 hg6 _ => ?_)
        have hb6 := hown4.below hg6 hs4
        refine WL.v (Val.assign rfl rfl) ?_ -- d5
        refine WL.nil ?_
        refine Ends.blkn ?_
        refine Ends.next ?_
        refine CW.region ?_
        refine WL.v (Val.move rfl rfl) ?_ -- d26
        refine WL.v (Val.add rfl rfl rfl _ (IntWalk.i64_in _ (by omega))) ?_ -- d27
        refine WL.v (Val.assign rfl rfl) ?_ -- d7
        refine WL.nil ?_
        exact Ends.round (v6, i + 1) (by simp only; omega) ⟨rfl, rfl, rfl, by rw [hst, ← hblen, ← hjl]; rfl, rfl, trivial⟩ ⟨hlt, by rw [List.take_succ_eq_append_getElem hlt, caseN_snoc, Nat.zero_add]; exact hown6, (hbw.trans (hbl.mono hsz)).trans hb6⟩
    · -- no
      have hil : i = n.length := by omega
      rw [hil, List.take_length] at hown0
      have hm2 : Nm w2 mv (caseN ts 0 n) := hown0.sl
      have hmr : rightN (caseN ts 0 n) = true := by rw [case_right]; exact hr
      have hlm := caseN_len ts n 0
      have hsm := case_sum ts n 0
      have hlow := low_case ts n 0
      have okn := right_ok hr
      have okm := right_ok hmr
      have htx := textN_le (caseN ts 0 n)
      generalize caseN ts 0 n = m at *
      refine CW.exit ?_
      refine Ends.seqx ?_
      refine Ends.seqx ?_
      refine Ends.blke ?_
      refine Ends.next ?_
      refine CW.seq ?_
      refine CW.region ?_
      refine WL.v (Val.move rfl rfl) ?_ -- d91
      refine WL.call bodied32 rfl rfl (text32 _ _ _ hm2 (by omega) (by omega)) ?_
      rintro _ w4 ⟨rfl, hb4⟩
      have hB4 := hbw.trans (hb4.mono hbw.size)
      have hm4 := hm2.keep hb4
      have hn4 := hn2.keep hb4
      refine WL.call bodied26 rfl rfl (parse26 _ _ (by rw [size_mkS]; omega)) ?_
      rw [bytes_mkS, parse_text hmr]
      rintro _ w5 ⟨pv, rfl, hp5, hb5⟩
      have hB5 := hB4.trans (hb5.mono hB4.size)
      have hm5 := hm4.keep hb5
      have hn5 := hn4.keep hb5
      refine WL.v (Val.move rfl rfl) ?_ -- d90
      refine WL.v (Val.extract rfl rfl rfl) ?_ -- d94
      refine WL.v (Val.extract rfl rfl rfl) ?_ -- d95
      refine WL.v (Val.assign rfl rfl) ?_ -- d10
      refine WL.v (Val.assign rfl rfl) ?_ -- d11
      refine WL.nil ?_
      refine Ends.next ?_
      refine CW.seq ?_
      refine CW.region ?_
      refine WL.v (Val.move rfl rfl) ?_ -- d96
      refine WL.v (Val.move rfl rfl) ?_ -- d97
      refine WL.call bodied47 rfl rfl (same47 _ _ _ _ _ hn5 hm5 okn okm) ?_
      rw [show sameN n m = true by rw [sameN_eq, hlow]; simp]
      rintro _ w6 ⟨rfl, hb6⟩
      have hB6 := hB5.trans (hb6.mono hB5.size)
      have hm6 := hm5.keep hb6
      have hn6 := hn5.keep hb6
      have hp6 := hp5.keep hb6
      refine WL.v (Val.move rfl rfl) ?_ -- d99
      refine WL.yes rfl rfl rfl (rfl) ?_
      refine WL.v (Val.move rfl rfl) ?_ -- d100
      refine WL.yes rfl rfl rfl (rfl) ?_
      refine WL.v (Val.move rfl rfl) ?_ -- d101
      refine WL.yes rfl rfl rfl (rfl) ?_
      refine WL.call bodied37 rfl rfl (cmp37 _ _ _ _ _ hn6 hm6 okn okm) ?_
      rw [show cmpN n m = 0 by rw [cmpN_zero, hlow]]
      rintro _ w7 ⟨rfl, hb7⟩
      have hB7 := hB6.trans (hb7.mono hB6.size)
      have hm7 := hm6.keep hb7
      have hn7 := hn6.keep hb7
      have hp7 := hp6.keep hb7
      refine WL.yes rfl rfl rfl (rfl) ?_
      refine WL.v (Val.eqlI rfl rfl rfl) ?_ -- d103
      refine WL.v (Val.pickT rfl rfl (rfl) rfl) ?_ -- d104
      refine WL.v (Val.move rfl rfl) ?_ -- d105
      refine WL.yes rfl rfl rfl (rfl) ?_
      refine WL.v (Val.move rfl rfl) ?_ -- d106
      refine WL.yes rfl rfl rfl (rfl) ?_
      refine WL.call bodied42 rfl rfl (lower42 _ _ _ hn7 (by omega) (fun s hs => by have := okn.2 s hs; omega)) ?_
      rintro r8 w8 ⟨hr8, hb8⟩
      have hB8 := hB7.trans (hb8.mono hB7.size)
      have hm8 := hm7.keep hb8
      have hn8 := hn7.keep hb8
      have hp8 := hp7.keep hb8
      refine WL.yes rfl rfl rfl (rfl) ?_
      refine WL.v (Val.move rfl rfl) ?_ -- d108
      refine WL.yes rfl rfl rfl (rfl) ?_
      refine WL.call bodied42 rfl rfl (lower42 _ _ _ hm8 (by omega) (fun s hs => by have := okm.2 s hs; omega)) ?_
      rintro r9 w9 ⟨hr9, hb9⟩
      have hB9 := hB8.trans (hb9.mono hB8.size)
      have hm9 := hm8.keep hb9
      have hn9 := hn8.keep hb9
      have hp9 := hp8.keep hb9
      refine WL.yes rfl rfl rfl (rfl) ?_
      refine WL.call bodied30 rfl rfl (name30 _ _ _ _ _ (hr8.keep hb9).sl hr9.sl (by simp; omega)) ?_
      rw [decide_eq_true (show n.map lowS = m.map lowS from hlow.symm)]
      rintro _ w10 ⟨rfl, hb10⟩
      have hB10 := hB9.trans (hb10.mono hB9.size)
      have hm10 := hm9.keep hb10
      have hn10 := hn9.keep hb10
      have hp10 := hp9.keep hb10
      refine WL.v (Val.pickT rfl rfl (rfl) rfl) ?_ -- d111
      refine WL.v (Val.move rfl rfl) ?_ -- d112
      refine WL.yes rfl rfl rfl (rfl) ?_
      refine WL.v (Val.move rfl rfl) ?_ -- d113
      refine WL.yes rfl rfl rfl (rfl) ?_
      refine WL.v (Val.eqlI rfl rfl rfl) ?_ -- d114
      refine WL.v (Val.pickT rfl rfl (rfl) rfl) ?_ -- d115
      refine WL.v (Val.move rfl rfl) ?_ -- d116
      refine WL.yes rfl rfl rfl (rfl) ?_
      refine WL.v (Val.move rfl rfl) ?_ -- d117
      refine WL.yes rfl rfl rfl (rfl) ?_
      refine WL.v (Val.move rfl rfl) ?_ -- d118
      refine WL.yes rfl rfl rfl (rfl) ?_
      refine WL.call bodied30 rfl rfl (name30 _ _ _ _ _ hp10 hm10 (by show m.length ≤ _; omega)) ?_
      rw [decide_eq_true rfl]
      rintro _ w11 ⟨rfl, hb11⟩
      have hB11 := hB10.trans (hb11.mono hB10.size)
      have hm11 := hm10.keep hb11
      have hn11 := hn10.keep hb11
      refine WL.v (Val.pickT rfl rfl (rfl) rfl) ?_ -- d120
      refine WL.v (Val.move rfl rfl) ?_ -- d121
      refine WL.yes rfl rfl rfl (rfl) ?_
      refine WL.v (Val.move rfl rfl) ?_ -- d122
      refine WL.yes rfl rfl rfl (rfl) ?_
      refine WL.v (Val.move rfl rfl) ?_ -- d123
      refine WL.yes rfl rfl rfl (rfl) ?_
      refine WL.call bodied35 rfl rfl (within35 _ _ _ _ _ hm11 hn11 okm okn) ?_
      rw [show withinN m n = true by rw [withinN, sameN_eq, hlm, Nat.sub_self, List.drop_zero, hlow]; simp]
      rintro _ w12 ⟨rfl, hb12⟩
      have hB12 := hB11.trans (hb12.mono hB11.size)
      refine WL.v (Val.pickT rfl rfl (rfl) rfl) ?_ -- d125
      refine WL.v (Val.assign rfl rfl) ?_ -- d4
      refine WL.nil ?_
      refine Ends.next ?_
      refine CW.ret ?_
      exact Ends.ret1 rfl rfl ⟨rfl, hB12⟩
end Go.Proofs.Ytjdgckamjgldmaa
