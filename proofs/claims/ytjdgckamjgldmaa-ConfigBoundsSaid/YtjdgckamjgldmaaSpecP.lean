/- Reading a name's text, byte by byte. No program in sight. -/
import Derived.Test.YtjdgckamjgldmaaSpec
import GoSem.Core.Utf8
namespace Go.Proofs.Ytjdgckamjgldmaa

/-- What has been read so far. -/
structure PS where
  n : List ByteArray
  l : List UInt8
  code : List UInt8
  sign : Bool
def digN (r : Nat) : Prop := 48 ≤ r ∧ r ≤ 57
instance (r : Nat) : Decidable (digN r) := by unfold digN; infer_instance
/-- The number that digits tell. -/
def valS (code : List UInt8) : Nat := code.foldl (fun c d => 10 * c + (d - 48).toNat) 0
def endS (s : PS) : Option PS := if s.l = [] then none else some { s with n := s.n ++ [mkS s.l], l := [] }
def numS (s : PS) (r : Nat) : Option PS :=
  if digN r then
    if (s.code ++ [UInt8.ofNat r]).length < 3 then some { s with code := s.code ++ [UInt8.ofNat r] }
    else if 255 < valS (s.code ++ [UInt8.ofNat r]) then none
    else some { s with l := s.l ++ [UInt8.ofNat (valS (s.code ++ [UInt8.ofNat r]))], code := [], sign := false }
  else none
/-- A piece of text: its rune, its bytes. -/
def takeS (s : PS) (r : Nat) (ch : List UInt8) : Option PS :=
  if 0 < s.code.length then numS s r
  else if s.sign = true ∧ digN r then some { s with code := s.code ++ [UInt8.ofNat r] }
  else if s.sign = true then some { s with l := s.l ++ ch, sign := false }
  else if r = 92 then some { s with sign := true }
  else if r = 46 then endS s
  else some { s with l := s.l ++ ch }
def stepP (s : PS) (c : UInt8) : Option PS := takeS s c.toNat [c]
def runP (s : PS) : List UInt8 → Option PS
  | [] => some s
  | c :: r => (stepP s c).bind fun s' => runP s' r
theorem runP_append (s : PS) (a b : List UInt8) : runP s (a ++ b) = (runP s a).bind fun s' => runP s' b := by
  induction a generalizing s with
  | nil => rfl
  | cons c a ih =>
    simp only [List.cons_append, runP]
    cases stepP s c with
    | none => rfl
    | some s' => simp only [Option.bind_some]; exact ih s'
/-- A piece of text is one small byte, or a rune and bytes that all are large. -/
def Piece (r : Nat) (ch : List UInt8) : Prop := (∃ c : UInt8, c.toNat < 128 ∧ r = c.toNat ∧ ch = [c]) ∨ (128 ≤ r ∧ ch ≠ [] ∧ ∀ c ∈ ch, 128 ≤ c.toNat)
theorem step_plain {s : PS} {c : UInt8} (h1 : s.code = []) (h2 : s.sign = false) (h3 : c.toNat ≠ 92) (h4 : c.toNat ≠ 46) : stepP s c = some { s with l := s.l ++ [c] } := by
  simp [stepP, takeS, h1, h2, h3, h4]
theorem run_large {s : PS} {ch : List UInt8} (h1 : s.code = []) (h2 : s.sign = false) (h : ∀ c ∈ ch, 128 ≤ c.toNat) : runP s ch = some { s with l := s.l ++ ch } := by
  induction ch generalizing s with
  | nil => simp [runP]
  | cons c ch ih =>
    have hc := h c (by simp)
    rw [runP, step_plain h1 h2 (by omega) (by omega), Option.bind_some, ih (s := { s with l := s.l ++ [c] }) h1 h2 (fun x hx => h x (by simp [hx]))]
    simp
theorem take_run {s : PS} {r : Nat} {ch : List UInt8} (h : Piece r ch) : takeS s r ch = runP s ch := by
  rcases h with ⟨c, hc, rfl, rfl⟩ | ⟨hr, hne, hch⟩
  · rw [runP, stepP]
    cases takeS s c.toNat [c] <;> rfl
  · cases ch with
    | nil => exact absurd rfl hne
    | cons c ch =>
      have hc := hch c (by simp)
      have hrest : ∀ x ∈ ch, 128 ≤ x.toNat := fun x hx => hch x (by simp [hx])
      have hd : ¬ digN r := by simp only [digN]; omega
      have hdc : ¬ digN c.toNat := by simp only [digN]; omega
      rw [runP]
      by_cases h1 : 0 < s.code.length
      · simp [takeS, stepP, h1, numS, hd, hdc]
      · have hcode : s.code = [] := List.eq_nil_of_length_eq_zero (by omega)
        cases hs : s.sign with
        | true =>
          have : stepP s c = some { s with l := s.l ++ [c], sign := false } := by simp [stepP, takeS, hcode, hs, hdc]
          rw [this, Option.bind_some, run_large (s := { s with l := s.l ++ [c], sign := false }) hcode rfl hrest]
          simp [takeS, hcode, hs, hd]
        | false =>
          rw [step_plain hcode hs (by omega) (by omega), Option.bind_some, run_large (s := { s with l := s.l ++ [c] }) hcode hs hrest]
          have a1 : r ≠ 92 := by omega
          have a2 : r ≠ 46 := by omega
          simp [takeS, hcode, hs, a1, a2]

/-- How large what was read is. -/
def Sml (s : PS) (k : Nat) : Prop := s.l.length ≤ k ∧ s.n.length ≤ k ∧ s.code.length ≤ 2
theorem Sml.step {s s' : PS} {c : UInt8} {k : Nat} (h : Sml s k) (hs : stepP s c = some s') : Sml s' (k + 1) := by
  obtain ⟨h1, h2, h3⟩ := h
  simp only [stepP, takeS, numS, endS, List.length_append, List.length_singleton] at hs
  repeat' split at hs
  all_goals first
    | cases hs
    | skip
  all_goals simp only [Sml, List.length_append, List.length_singleton, List.length_nil]
  all_goals omega
theorem Sml.run {s s' : PS} {b : List UInt8} {k : Nat} (h : Sml s k) (hs : runP s b = some s') : Sml s' (k + b.length) := by
  induction b generalizing s k with
  | nil => simp only [runP] at hs; cases hs; exact h
  | cons c b ih =>
    simp only [runP] at hs
    cases hc : stepP s c with
    | none => rw [hc] at hs; cases hs
    | some s2 =>
      rw [hc] at hs
      have := ih (h.step hc) hs
      rw [List.length_cons]
      rw [show k + (b.length + 1) = k + 1 + b.length by omega]
      exact this
def finP (s : PS) : Option (List ByteArray) := if s.sign = true ∨ (s.n = [] ∧ s.l = []) then none else some (if s.l = [] then s.n else s.n ++ [mkS s.l])
def startP : PS := ⟨[], [], [], false⟩
/-- What a text tells, ahead of its check. -/
def readP (b : List UInt8) : Option (List ByteArray) := if b = [46] then some [] else (runP startP b).bind finP
def parseN (b : List UInt8) : List ByteArray × Int := match readP b with
  | none => ([], 30)
  | some n => if checkN n = 0 then (n, 0) else ([], checkN n)

/-! ### Whole steps, as the reference takes them -/
def goP (n : List ByteArray) (l b : List UInt8) : Option (List ByteArray) := (runP ⟨n, l, [], false⟩ b).bind finP
theorem goP_nil {n : List ByteArray} {l : List UInt8} : goP n l [] = finP ⟨n, l, [], false⟩ := rfl
theorem goP_dot0 {n : List ByteArray} {r : List UInt8} : goP n [] (46 :: r) = none := rfl
theorem goP_dot {n : List ByteArray} {l r : List UInt8} (h : l ≠ []) : goP n l (46 :: r) = goP (n ++ [mkS l]) [] r := by
  simp [goP, runP, stepP, takeS, endS, h]
theorem goP_plain {n : List ByteArray} {l r : List UInt8} {c : UInt8} (h1 : c.toNat ≠ 46) (h2 : c.toNat ≠ 92) : goP n l (c :: r) = goP n (l ++ [c]) r := by
  rw [goP, runP, step_plain rfl rfl h2 h1]
  rfl
theorem goP_end {n : List ByteArray} {l : List UInt8} : goP n l [92] = none := by
  simp [goP, runP, stepP, takeS, finP]
theorem goP_sign {n : List ByteArray} {l r : List UInt8} {c : UInt8} (h : ¬ digN c.toNat) : goP n l (92 :: c :: r) = goP n (l ++ [c]) r := by
  simp [goP, runP, stepP, takeS, h]
theorem goP_code0 {n : List ByteArray} {l : List UInt8} {c : UInt8} (h : digN c.toNat) : goP n l [92, c] = none := by
  simp [goP, runP, stepP, takeS, h, finP]
theorem goP_code1 {n : List ByteArray} {l r : List UInt8} {c d : UInt8} (h : digN c.toNat) (hd : ¬ digN d.toNat) : goP n l (92 :: c :: d :: r) = none := by
  simp [goP, runP, stepP, takeS, h, numS, hd]
theorem goP_code2 {n : List ByteArray} {l : List UInt8} {c d : UInt8} (h : digN c.toNat) (hd : digN d.toNat) : goP n l [92, c, d] = none := by
  simp [goP, runP, stepP, takeS, h, numS, hd, finP]
theorem goP_code3 {n : List ByteArray} {l r : List UInt8} {c d f : UInt8} (h : digN c.toNat) (hd : digN d.toNat) (hf : ¬ digN f.toNat) : goP n l (92 :: c :: d :: f :: r) = none := by
  simp [goP, runP, stepP, takeS, h, numS, hd, hf]
theorem goP_big {n : List ByteArray} {l r : List UInt8} {c d f : UInt8} (h : digN c.toNat) (hd : digN d.toNat) (hf : digN f.toNat) (hv : 255 < valS [c, d, f]) : goP n l (92 :: c :: d :: f :: r) = none := by
  simp [goP, runP, stepP, takeS, h, numS, hd, hf, hv]
theorem goP_code {n : List ByteArray} {l r : List UInt8} {c d f : UInt8} (h : digN c.toNat) (hd : digN d.toNat) (hf : digN f.toNat) (hv : ¬ 255 < valS [c, d, f]) :
    goP n l (92 :: c :: d :: f :: r) = goP n (l ++ [UInt8.ofNat (valS [c, d, f])]) r := by
  simp [goP, runP, stepP, takeS, h, numS, hd, hf, hv]
theorem valS_digs {c d f : UInt8} (h : digN c.toNat) (hd : digN d.toNat) (hf : digN f.toNat) : valS [c, d, f] = 100 * (c.toNat - 48) + 10 * (d.toNat - 48) + (f.toNat - 48) := by
  have hs : ∀ x : UInt8, digN x.toNat → (x - 48).toNat = x.toNat - 48 := by
    intro x hx
    rw [UInt8.toNat_sub_of_le]
    · rfl
    · rw [UInt8.le_iff_toNat_le]; exact hx.1
  simp only [valS, List.foldl, hs c h, hs d hd, hs f hf]
  omega

/-! ### Runes of bytes -/
theorem get!_bytes {s : ByteArray} {i : Nat} (hi : i < s.size) : (bytes s)[i]? = some (s.get! i) := by
  have h2 : i < s.data.size := hi
  simp only [bytes, Array.getElem?_toList]
  rw [Array.getElem?_eq_getElem h2]
  simp only [ByteArray.get!]
  rw [getElem!_pos s.data i h2]
theorem bytes_extract {s : ByteArray} {b e : Nat} : bytes (s.extract b e) = ((bytes s).take e).drop b := by
  simp [bytes, List.drop_take]
theorem drop_piece {s : ByteArray} {b e : Nat} (h : b ≤ e) : (bytes s).drop b = bytes (s.extract b e) ++ (bytes s).drop e := by
  rw [bytes_extract, List.drop_take]
  have : (bytes s).drop e = ((bytes s).drop b).drop (e - b) := by rw [List.drop_drop]; congr 1; omega
  rw [this, List.take_append_drop]
theorem decode_small {s : ByteArray} {i : Nat} (h : (s.get! i).toNat < 128) : Utf8.decode s i = ((s.get! i).toNat, 1) := by
  simp [Utf8.decode, h]
theorem decode_large {s : ByteArray} {i : Nat} (hi : i < s.size) (h : 128 ≤ (s.get! i).toNat) :
    128 ≤ (Utf8.decode s i).1 ∧ 1 ≤ (Utf8.decode s i).2 ∧ i + (Utf8.decode s i).2 ≤ s.size ∧ ∀ j, j < (Utf8.decode s i).2 → 128 ≤ (s.get! (i + j)).toNat := by
  have h0 : ¬ (s.get! i).toNat < 128 := by omega
  simp only [Utf8.decode, Nat.add_zero, h0, if_false, Bool.and_eq_true, decide_eq_true_eq, beq_iff_eq, Utf8.runeError]
  split
  · rename_i h1
    split
    · rename_i h2
      refine ⟨h2, Nat.le_of_ble_eq_true rfl, by omega, fun j hj => ?_⟩
      match j, hj with
      | 0, _ => exact h
      | 1, _ => omega
    · refine ⟨by decide, by decide, by omega, fun j hj => ?_⟩
      match j, hj with
      | 0, _ => exact h
  · split
    · rename_i h1
      split
      · rename_i h2
        refine ⟨by show 128 ≤ _; omega, Nat.le_of_ble_eq_true rfl, by omega, fun j hj => ?_⟩
        match j, hj with
        | 0, _ => exact h
        | 1, _ => omega
        | 2, _ => omega
      · refine ⟨by decide, by decide, by omega, fun j hj => ?_⟩
        match j, hj with
        | 0, _ => exact h
    · split
      · rename_i h1
        split
        · rename_i h2
          refine ⟨by show 128 ≤ _; omega, Nat.le_of_ble_eq_true rfl, by omega, fun j hj => ?_⟩
          match j, hj with
          | 0, _ => exact h
          | 1, _ => omega
          | 2, _ => omega
          | 3, _ => omega
        · refine ⟨by decide, by decide, by omega, fun j hj => ?_⟩
          match j, hj with
          | 0, _ => exact h
      · refine ⟨by decide, by decide, by omega, fun j hj => ?_⟩
        match j, hj with
        | 0, _ => exact h
theorem decode_pos {s : ByteArray} {i : Nat} (hi : i < s.size) : 1 ≤ (Utf8.decode s i).2 ∧ i + (Utf8.decode s i).2 ≤ s.size := by
  by_cases h : (s.get! i).toNat < 128
  · rw [decode_small h]
    exact ⟨Nat.le_refl _, hi⟩
  · have := decode_large hi (by omega)
    exact ⟨this.2.1, this.2.2.1⟩
theorem get!_extract {s : ByteArray} {b e j : Nat} (h : b + j < e) (he : e ≤ s.size) : (s.extract b e).get! j = s.get! (b + j) := by
  have h1 : j < (s.extract b e).size := by simp; omega
  have e1 := get!_bytes h1
  have e2 := get!_bytes (s := s) (i := b + j) (by omega)
  rw [bytes_extract, List.getElem?_drop, List.getElem?_take, if_pos h, e2] at e1
  injection e1 with e1
  exact e1.symm
theorem piece_of {s : ByteArray} {b e : Nat} (hb : b < s.size) (he : e = b + (Utf8.decode s b).2) : Piece (Utf8.decode (s.extract b e) 0).1 (bytes (s.extract b e)) := by
  have hp := decode_pos hb
  have hsz : (s.extract b e).size = e - b := by simp; omega
  have h0 : (s.extract b e).get! 0 = s.get! b := get!_extract (by omega) (by omega)
  by_cases h : (s.get! b).toNat < 128
  · rw [decode_small h] at he hp
    refine .inl ⟨s.get! b, h, ?_, ?_⟩
    · rw [decode_small (by rw [h0]; exact h), h0]
    · have h1 : (bytes (s.extract b e)).length = 1 := by rw [bytes_length, hsz]; simp only at he; omega
      obtain ⟨c, hc⟩ := List.length_eq_one_iff.1 h1
      have e1 := get!_bytes (s := s.extract b e) (i := 0) (by rw [hsz]; omega)
      rw [hc, h0] at e1
      injection e1 with e1
      rw [hc, e1]
  · have hl := decode_large hb (by omega)
    refine .inr ⟨(decode_large (s := s.extract b e) (i := 0) (by omega) (by rw [h0]; omega)).1, ?_, fun c hc => ?_⟩
    · intro hn
      have := congrArg List.length hn
      rw [bytes_length, hsz] at this
      simp at this
      omega
    · obtain ⟨j, hj, rfl⟩ := List.mem_iff_getElem.1 hc
      rw [bytes_length, hsz] at hj
      have e1 := get!_bytes (s := s.extract b e) (i := j) (by rw [hsz]; exact hj)
      rw [get!_extract (by omega) (by omega), List.getElem?_eq_getElem (by rw [bytes_length, hsz]; exact hj)] at e1
      injection e1 with e1
      rw [e1]
      exact hl.2.2.2 j (by omega)

/-! ### The reference's places -/
theorem drop_at {t : ByteArray} {k : Nat} (h : k < t.size) : (bytes t).drop k = (bytes t).getD k 0 :: (bytes t).drop (k + 1) := by
  have hk : k < (bytes t).length := by rw [bytes_length]; exact h
  rw [List.drop_eq_getElem_cons hk]
  simp [List.getD_eq_getElem?_getD, hk]
theorem at_byte {t : ByteArray} {k : Nat} (h : k < t.size) : t.data.toList[k]? = some ((bytes t).getD k 0) := by
  have hk : k < (bytes t).length := by rw [bytes_length]; exact h
  show (bytes t)[k]? = _
  simp [List.getD_eq_getElem?_getD, hk]
theorem drop_end {t : ByteArray} {k : Nat} (h : t.size ≤ k) : (bytes t).drop k = [] := List.drop_eq_nil_of_le (by rw [bytes_length]; exact h)
theorem goP_codes {t : ByteArray} {n : List ByteArray} {l : List UInt8} {i : Nat} (hi : i + 1 < t.size) (hc : (bytes t).getD i 0 = 92) (h1 : digN ((bytes t).getD (i + 1) 0).toNat)
    (h : t.size ≤ i + 3 ∨ ¬ digN ((bytes t).getD (i + 2) 0).toNat ∨ ¬ digN ((bytes t).getD (i + 3) 0).toNat) : goP n l ((bytes t).drop i) = none := by
  rw [drop_at (show i < t.size by omega), hc, drop_at hi]
  by_cases h2 : i + 2 < t.size
  · rw [drop_at h2]
    by_cases hd2 : digN ((bytes t).getD (i + 2) 0).toNat
    · by_cases h3 : i + 3 < t.size
      · rw [drop_at h3]
        rcases h with h | h | h
        · omega
        · exact absurd hd2 h
        · exact goP_code3 h1 hd2 h
      · rw [drop_end (show t.size ≤ i + 2 + 1 by omega)]
        exact goP_code2 h1 hd2
    · exact goP_code1 h1 hd2
  · rw [drop_end (show t.size ≤ i + 1 + 1 by omega)]
    exact goP_code0 h1
theorem read_go {b : List UInt8} (h : b ≠ [46]) : readP b = goP [] [] b := if_neg h
theorem dot_iff {t : ByteArray} : bytes t = [46] ↔ t = ⟨#[46]⟩ := by
  constructor
  · intro h
    obtain ⟨d⟩ := t
    have : d.toList = [46] := h
    obtain rfl : d = #[46] := by
      apply Array.ext'
      rw [this]
    rfl
  · rintro rfl
    rfl
end Go.Proofs.Ytjdgckamjgldmaa
