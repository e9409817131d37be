/- Names that are written and read back. No program in sight. -/
import Derived.Test.YtjdgckamjgldmaaSpecP
namespace Go.Proofs.Ytjdgckamjgldmaa

theorem dig_of {c : UInt8} {k : Nat} (hk : k < 10) (h : c.toNat = 48 + k) : digN c.toNat := by unfold digN; omega
theorem dgn1 (c : UInt8) : (48 + c / 100 : UInt8).toNat = 48 + c.toNat / 100 := by
  have := dg1 c
  omega
theorem dgn2 (c : UInt8) : (48 + c / 10 % 10 : UInt8).toNat = 48 + c.toNat / 10 % 10 := by
  have := dg2 c
  omega
theorem dgn3 (c : UInt8) : (48 + c % 10 : UInt8).toNat = 48 + c.toNat % 10 := by
  have := dg3 c
  omega
theorem goP_esc (n : List ByteArray) (l r : List UInt8) (c : UInt8) : goP n l (esc c ++ r) = goP n (l ++ [c]) r := by
  by_cases h : (c.toNat : Int) = 46 ∨ (c.toNat : Int) = 92
  · rw [esc_dot h]
    refine goP_sign ?_
    unfold digN
    omega
  · by_cases h' : (c.toNat : Int) < 33 ∨ 126 < (c.toNat : Int)
    · rw [esc_code h h']
      have hc := c.toNat_lt
      have d1 := dig_of (k := c.toNat / 100) (by omega) (dgn1 c)
      have d2 := dig_of (k := c.toNat / 10 % 10) (by omega) (dgn2 c)
      have d3 := dig_of (k := c.toNat % 10) (by omega) (dgn3 c)
      have hv : valS [48 + c / 100, 48 + c / 10 % 10, 48 + c % 10] = c.toNat := by
        rw [valS_digs d1 d2 d3, dgn1, dgn2, dgn3]
        omega
      show goP n l (92 :: (48 + c / 100) :: (48 + c / 10 % 10) :: (48 + c % 10) :: r) = _
      rw [goP_code d1 d2 d3 (by rw [hv]; omega), hv]
      simp
    · rw [esc_plain h h']
      exact goP_plain (by omega) (by omega)
theorem goP_escL (n : List ByteArray) (l r b : List UInt8) : goP n l (escL b ++ r) = goP n (l ++ b) r := by
  induction b generalizing l with
  | nil => simp [escL]
  | cons c b ih =>
    show goP n l ((esc c ++ escL b) ++ r) = _
    rw [List.append_assoc, goP_esc, ih]
    simp
theorem goP_textT (n m : List ByteArray) (r : List UInt8) (h : ∀ s ∈ m, s.size ≠ 0) : goP n [] (textT m ++ r) = goP (n ++ m) [] r := by
  induction m generalizing n with
  | nil => simp [textT]
  | cons s m ih =>
    have hs : bytes s ≠ [] := fun h0 => h s (by simp) (by rw [← bytes_length, h0]; rfl)
    show goP n [] (((escL (bytes s) ++ [46]) ++ textT m) ++ r) = _
    rw [List.append_assoc, List.append_assoc, goP_escL, List.nil_append]
    show goP n (bytes s) (46 :: (textT m ++ r)) = _
    rw [goP_dot hs, ih _ (fun t ht => h t (by simp [ht]))]
    simp
theorem finP_nil {n : List ByteArray} (h : n ≠ []) : finP ⟨n, [], [], false⟩ = some n := by
  simp [finP, h]
theorem textT_ne {m : List ByteArray} (h : ∀ s ∈ m, s.size ≠ 0) : textT m ≠ [46] := by
  cases m with
  | nil => simp [textT]
  | cons s m =>
    have hs := h s (by simp)
    intro he
    have : (escL (bytes s) ++ [46] ++ textT m).length = 1 := by
      have := congrArg List.length he
      exact this
    simp only [List.length_append, List.length_singleton] at this
    have h0 : bytes s ≠ [] := fun h0 => hs (by rw [← bytes_length, h0]; rfl)
    cases hb : bytes s with
    | nil => exact h0 hb
    | cons c b =>
      rw [hb] at this
      have h1 := (esc_le c).1
      have : (escL (c :: b)).length = (esc c).length + (escL b).length := by simp [escL]
      omega
/-- A name without empty labels is read back from its text. -/
theorem read_text (m : List ByteArray) (h : ∀ s ∈ m, s.size ≠ 0) : readP (textN m) = some m := by
  by_cases hm : m = []
  · subst hm
    simp [textN, readP]
  · rw [textN, if_neg hm, read_go (textT_ne h)]
    have := goP_textT [] m [] h
    rw [List.append_nil, List.nil_append] at this
    rw [this, goP_nil, finP_nil hm]
theorem right_parts {l : List ByteArray} (h : rightN l = true) : l.length ≤ 127 ∧ (∀ s ∈ l, s.size ≠ 0 ∧ s.size ≤ 63) ∧ 1 + sumS l + l.length ≤ 255 := by
  simp only [rightN, Bool.and_eq_true, decide_eq_true_eq, List.all_eq_true] at h
  exact ⟨h.1.1, h.1.2, h.2⟩
theorem checkN_ok {l : List ByteArray} (h : ∀ s ∈ l, s.size ≠ 0 ∧ s.size ≤ 63) : checkN l = if 255 < 1 + sumS l + l.length then 31 else 0 := by
  have := checkN_read (acc := l) (i := sumS l + l.length) ⟨rfl, h⟩
  rw [this]
  by_cases hc : 255 < sumS l + l.length + 1
  · rw [if_pos hc, if_pos (by omega)]
  · rw [if_neg hc, if_neg (by omega)]
theorem checkN_right {l : List ByteArray} (h : rightN l = true) : checkN l = 0 := by
  obtain ⟨_, h2, h3⟩ := right_parts h
  rw [checkN_ok h2, if_neg (by omega)]
theorem parse_text {l : List ByteArray} (h : rightN l = true) : parseN (textN l) = (l, 0) := by
  obtain ⟨_, h2, h3⟩ := right_parts h
  rw [parseN, read_text l (fun s hs => (h2 s hs).1)]
  simp [checkN_right h]

/-! The wire, read back. -/
theorem openF_wire (m : List ByteArray) (hm : ∀ s ∈ m, s.size ≠ 0 ∧ s.size ≤ 63) (r : List UInt8) : ∀ (pre : List UInt8) (acc : List ByteArray) (f : Nat), m.length < f →
    openF f (pre ++ (wireL m ++ 0 :: r)) pre.length acc = some (acc ++ m, pre.length + (wireL m).length + 1) := by
  induction m with
  | nil =>
    intro pre acc f hf
    have hlt : pre.length < (pre ++ (wireL [] ++ 0 :: r)).length := by simp [wireL]
    rw [openF_zero hf hlt (by simp [wireL])]
    simp [wireL]
  | cons s m ih =>
    intro pre acc f hf
    obtain ⟨h1, h2⟩ := hm s (by simp)
    cases f with
    | zero => omega
    | succ f =>
      have hlt : pre.length < (pre ++ (wireL (s :: m) ++ 0 :: r)).length := by simp [wireL]
      have hget : (pre ++ (wireL (s :: m) ++ 0 :: r))[pre.length] = UInt8.ofNat s.size := by
        simp [wireL]
      have hsz : (UInt8.ofNat s.size).toNat = s.size := by rw [UInt8.toNat_ofNat']; omega
      have hlen : (pre ++ (wireL (s :: m) ++ 0 :: r)).length = pre.length + (1 + s.size + (wireL m).length + 1 + r.length) := by
        simp [wireL, bytes_length]; omega
      rw [openF_next hlt (by rw [hget, hsz]; exact h1) (by rw [hget, hsz]; omega), hget, hsz]
      have hd : ((pre ++ (wireL (s :: m) ++ 0 :: r)).drop (pre.length + 1)).take s.size = bytes s := by
        rw [List.drop_append, List.drop_eq_nil_of_le (by omega), Nat.add_sub_cancel_left]
        simp [wireL]
        rw [← bytes_length, List.take_left]
      rw [hd, mkS_bytes]
      have := ih (fun t ht => hm t (by simp [ht])) (pre ++ UInt8.ofNat s.size :: bytes s) (acc ++ [s]) f (by simp at hf; omega)
      have e1 : pre ++ (wireL (s :: m) ++ 0 :: r) = (pre ++ UInt8.ofNat s.size :: bytes s) ++ (wireL m ++ 0 :: r) := by simp [wireL]
      have e2 : (pre ++ UInt8.ofNat s.size :: bytes s).length = pre.length + 1 + s.size := by simp [bytes_length]; omega
      rw [e2] at this
      rw [e1, this]
      have e3 : (wireL (s :: m)).length = 1 + s.size + (wireL m).length := by simp [wireL, bytes_length]; omega
      rw [e3]
      simp
      omega
theorem open_wire {l : List ByteArray} (h : rightN l = true) (r : List UInt8) : openN ((wireL l ++ [0]) ++ r) = (l, (((wireL l).length + 1 : Nat) : Int), 0) := by
  obtain ⟨h1, h2, h3⟩ := right_parts h
  have e : (wireL l ++ [0]) ++ r = [] ++ (wireL l ++ 0 :: r) := by simp
  have hl := wireL_length l
  have hle : l.length < ((wireL l ++ [0]) ++ r).length + 1 := by simp only [List.length_append, List.length_singleton]; omega
  have := openF_wire l h2 r [] [] _ hle
  rw [openN]
  rw [← e] at this
  simp only [List.length_nil, Nat.zero_add, List.nil_append] at this
  rw [this]
  have : ¬ 255 < (wireL l).length + 1 := by omega
  simp [this]
theorem textN_le (l : List ByteArray) : (textN l).length ≤ 4 * sumS l + l.length + 1 := by
  unfold textN
  split
  · simp
  · have := textT_le l
    omega
end Go.Proofs.Ytjdgckamjgldmaa
