/- What the functions of names come to, as plain functions on lists: no program in sight. -/
import Derived.Lib.Bytealg
import GoSem.Op.String
namespace Go.Proofs.Ytjdgckamjgldmaa

def bytes (s : ByteArray) : List UInt8 := s.data.toList
def mkS (l : List UInt8) : ByteArray := ⟨l.toArray⟩
@[simp] theorem bytes_mkS (l : List UInt8) : bytes (mkS l) = l := by simp [bytes, mkS]
@[simp] theorem mkS_bytes (s : ByteArray) : mkS (bytes s) = s := by cases s; simp [bytes, mkS]
theorem bytes_length (s : ByteArray) : (bytes s).length = s.size := rfl
theorem size_mkS (l : List UInt8) : (mkS l).size = l.length := by simp [mkS, ByteArray.size]
theorem bytes_inj {s t : ByteArray} (h : bytes s = bytes t) : s = t := by rw [← mkS_bytes s, h, mkS_bytes]
theorem size_zero {s : ByteArray} : s = ByteArray.empty ↔ s.size = 0 := by
  constructor
  · rintro rfl; rfl
  · intro h
    apply bytes_inj
    have : (bytes s).length = 0 := h
    rw [List.eq_nil_of_length_eq_zero this]
    rfl

def sumS : List ByteArray → Nat
  | [] => 0
  | s :: l => s.size + sumS l
theorem sumS_take (l : List ByteArray) (k : Nat) (hk : k < l.length) : sumS (l.take (k + 1)) = sumS (l.take k) + l[k].size := by
  induction l generalizing k with
  | nil => simp at hk
  | cons s l ih =>
    cases k with
    | zero => simp [sumS]
    | succ k =>
      simp only [List.take_succ_cons, sumS, List.getElem_cons_succ]
      rw [ih k (by simpa using hk)]
      omega
theorem sumS_le (l : List ByteArray) (k : Nat) : sumS (l.take k) ≤ sumS l := by
  induction l generalizing k with
  | nil => simp
  | cons s l ih =>
    cases k with
    | zero => simp [sumS]
    | succ k => simp only [List.take_succ_cons, sumS]; have := ih k; omega
theorem sumS_bound (l : List ByteArray) (b : Nat) (h : ∀ s ∈ l, s.size ≤ b) : sumS l ≤ b * l.length := by
  induction l with
  | nil => simp [sumS]
  | cons s l ih =>
    have h1 := h s (by simp)
    have h2 := ih (fun t ht => h t (by simp [ht]))
    simp only [sumS, List.length_cons, Nat.mul_add]
    omega

/-! LightName, RightName -/
def lightN (l : List ByteArray) : Bool := decide (l.length ≤ 200) && l.all (fun s => decide (s.size ≤ 300)) && decide (sumS l ≤ 2000)
def rightN (l : List ByteArray) : Bool := decide (l.length ≤ 127) && l.all (fun s => decide (s.size ≠ 0 ∧ s.size ≤ 63)) && decide (1 + sumS l + l.length ≤ 255)

/-! the wire -/
def wireL : List ByteArray → List UInt8
  | [] => []
  | s :: l => UInt8.ofNat s.size :: bytes s ++ wireL l
theorem wireL_take (l : List ByteArray) (k : Nat) (hk : k < l.length) : wireL (l.take (k + 1)) = wireL (l.take k) ++ [UInt8.ofNat l[k].size] ++ bytes l[k] := by
  induction l generalizing k with
  | nil => simp at hk
  | cons s l ih =>
    cases k with
    | zero => simp [wireL]
    | succ k =>
      simp only [List.take_succ_cons, wireL, List.getElem_cons_succ]
      rw [ih k (by simpa using hk)]
      simp [List.append_assoc]
theorem wireL_le (l : List ByteArray) (k : Nat) : (wireL (l.take k)).length ≤ (wireL l).length := by
  induction l generalizing k with
  | nil => simp
  | cons s l ih =>
    cases k with
    | zero => simp [wireL]
    | succ k => simp [wireL]; exact ih k
theorem wireL_length (l : List ByteArray) : (wireL l).length = sumS l + l.length := by
  induction l with
  | nil => simp [wireL, sumS]
  | cons s l ih => simp [wireL, sumS, ih, bytes_length]; omega

/-! Check -/
def checkN (l : List ByteArray) : Int :=
  if l.any (fun s => decide (s.size = 0)) then 30 else if l.any (fun s => decide (63 < s.size)) ∨ 255 < 1 + sumS l + l.length then 31 else 0

/-! small letters -/
def lowB (c : UInt8) : UInt8 := if 65 ≤ c ∧ c ≤ 90 then c + 32 else c
def lowS (s : ByteArray) : ByteArray := mkS ((bytes s).map lowB)
@[simp] theorem bytes_lowS (s : ByteArray) : bytes (lowS s) = (bytes s).map lowB := by simp [lowS]
theorem size_lowS (s : ByteArray) : (lowS s).size = s.size := by simp [lowS, size_mkS, bytes_length]

/-! the order -/
def cmpB (a b : List UInt8) : Int := Lib.compareBytes a b
def cmpR : List ByteArray → List ByteArray → Int
  | [], [] => 0
  | [], _ :: _ => -1
  | _ :: _, [] => 1
  | x :: a, y :: b => if cmpB (bytes (lowS x)) (bytes (lowS y)) = 0 then cmpR a b else cmpB (bytes (lowS x)) (bytes (lowS y))
def cmpN (a b : List ByteArray) : Int := cmpR a.reverse b.reverse
def sameN (a b : List ByteArray) : Bool := decide (cmpN a b = 0)
def withinN (n apex : List ByteArray) : Bool := decide (apex.length ≤ n.length) && sameN (n.drop (n.length - apex.length)) apex
def wildN (l : List ByteArray) : Bool := match l with | [] => false | s :: _ => decide (s = mkS [42])

theorem lowB_up {c : UInt8} (h : 65 ≤ c.toNat ∧ c.toNat ≤ 90) : lowB c = c + 32 ∧ (c + 32).toNat = c.toNat + 32 := by
  constructor
  · rw [lowB, if_pos ⟨UInt8.le_iff_toNat_le.2 h.1, UInt8.le_iff_toNat_le.2 h.2⟩]
  · rw [UInt8.toNat_add]
    have : (32 : UInt8).toNat = 32 := rfl
    omega
theorem lowB_same {c : UInt8} (h : ¬ (65 ≤ c.toNat ∧ c.toNat ≤ 90)) : lowB c = c := by
  rw [lowB, if_neg]
  intro hh
  exact h ⟨UInt8.le_iff_toNat_le.1 hh.1, UInt8.le_iff_toNat_le.1 hh.2⟩
/-- The first k in small letters. -/
def mixL (l : List UInt8) (k : Nat) : List UInt8 := (l.take k).map lowB ++ l.drop k
theorem mixL_length (l : List UInt8) (k : Nat) : (mixL l k).length = l.length := by simp [mixL]; omega
theorem mixL_zero (l : List UInt8) : mixL l 0 = l := by simp [mixL]
theorem mixL_all (l : List UInt8) : mixL l l.length = l.map lowB := by simp [mixL]
theorem mixL_get (l : List UInt8) (k : Nat) (hk : k < l.length) : (mixL l k)[k]? = some l[k] := by
  rw [mixL, List.getElem?_append_right (by simp; omega)]
  simp [Nat.min_eq_left (Nat.le_of_lt hk), hk]
theorem mixL_set (l : List UInt8) (k : Nat) (hk : k < l.length) : (mixL l k).set k (lowB l[k]) = mixL l (k + 1) := by
  unfold mixL
  rw [List.set_append_right _ _ (by simp; omega), List.take_succ_eq_append_getElem hk, List.map_append, List.append_assoc]
  congr 1
  have : k - (List.map lowB (List.take k l)).length = 0 := by simp; omega
  rw [this]
  have hd := List.drop_eq_getElem_cons hk
  rw [hd, List.set_cons_zero]
  simp
theorem mixL_same (l : List UInt8) (k : Nat) (hk : k < l.length) (h : lowB l[k] = l[k]) : mixL l k = mixL l (k + 1) := by
  rw [← mixL_set l k hk, h]
  have hg := mixL_get l k hk
  obtain ⟨h1, h2⟩ := List.getElem?_eq_some_iff.1 hg
  rw [← h2, List.set_getElem_self]

/-- A name of a size that walks may go over. -/
def OkN (l : List ByteArray) : Prop := l.length ≤ 1000000 ∧ ∀ s ∈ l, s.size ≤ 1000000
theorem light_ok {l : List ByteArray} (h : lightN l = true) : OkN l := by
  simp only [lightN, Bool.and_eq_true, decide_eq_true_eq, List.all_eq_true] at h
  exact ⟨by omega, fun s hs => by have := h.1.2 s hs; omega⟩

/-! the comparison of bytes -/
theorem cmpB_refl (a : List UInt8) : cmpB a a = 0 := by
  unfold cmpB
  induction a with
  | nil => rfl
  | cons x a ih => simp [Lib.compareBytes, ih]
theorem cmpB_eq {a b : List UInt8} (h : cmpB a b = 0) : a = b := by
  unfold cmpB at h
  induction a generalizing b with
  | nil => cases b <;> simp [Lib.compareBytes] at h ⊢
  | cons x a ih =>
    cases b with
    | nil => simp [Lib.compareBytes] at h
    | cons y b =>
      unfold Lib.compareBytes at h
      split at h
      · cases h
      · split at h
        · cases h
        · rename_i h1 h2
          have : x = y := UInt8.le_antisymm (UInt8.not_lt.1 h2) (UInt8.not_lt.1 h1)
          rw [this, ih h]
theorem cmpB_val (a b : List UInt8) : cmpB a b = -1 ∨ cmpB a b = 0 ∨ cmpB a b = 1 := by
  unfold cmpB
  induction a generalizing b with
  | nil => cases b <;> simp [Lib.compareBytes]
  | cons x a ih =>
    cases b with
    | nil => simp [Lib.compareBytes]
    | cons y b =>
      unfold Lib.compareBytes
      split
      · simp
      · split
        · simp
        · exact ih b
theorem cmpB_anti (a b : List UInt8) : cmpB b a = - cmpB a b := by
  unfold cmpB
  induction a generalizing b with
  | nil => cases b <;> simp [Lib.compareBytes]
  | cons x a ih =>
    cases b with
    | nil => simp [Lib.compareBytes]
    | cons y b =>
      unfold Lib.compareBytes
      by_cases h1 : x < y
      · have h2 : ¬ y < x := fun h => by have := UInt8.lt_iff_toNat_lt.1 h1; have := UInt8.lt_iff_toNat_lt.1 h; omega
        simp [h1, h2]
      · by_cases h2 : y < x
        · simp [h1, h2]
        · simp [h1, h2, ih b]
theorem cmpB_trans (a b c : List UInt8) (h1 : cmpB a b ≤ 0) (h2 : cmpB b c ≤ 0) : cmpB a c ≤ 0 ∧ (cmpB a c = 0 → cmpB a b = 0 ∧ cmpB b c = 0) := by
  unfold cmpB at *
  induction a generalizing b c with
  | nil =>
    cases c with
    | nil => cases b with
      | nil => simp [Lib.compareBytes]
      | cons y b => simp [Lib.compareBytes] at h2
    | cons z c => simp [Lib.compareBytes]
  | cons x a ih =>
    cases b with
    | nil => simp [Lib.compareBytes] at h1
    | cons y b =>
      cases c with
      | nil => simp [Lib.compareBytes] at h2
      | cons z c =>
        unfold Lib.compareBytes at h1 h2 ⊢
        simp only [UInt8.lt_iff_toNat_lt] at *
        by_cases xy : x.toNat < y.toNat
        · simp only [xy, if_true] at h1 ⊢
          by_cases yz : y.toNat < z.toNat
          · have xz : x.toNat < z.toNat := by omega
            simp [xz]
          · simp only [yz, if_false] at h2
            by_cases zy : z.toNat < y.toNat
            · simp [zy] at h2
            · have xz : x.toNat < z.toNat := by omega
              simp [xz]
        · simp only [xy, if_false] at h1 ⊢
          by_cases yx : y.toNat < x.toNat
          · simp [yx] at h1
          · simp only [yx, if_false] at h1 ⊢
            by_cases yz : y.toNat < z.toNat
            · have xz : x.toNat < z.toNat := by omega
              simp [xz]
            · simp only [yz, if_false] at h2 ⊢
              by_cases zy : z.toNat < y.toNat
              · simp [zy] at h2
              · simp only [zy, if_false] at h2 ⊢
                have xz : ¬ x.toNat < z.toNat := by omega
                have zx : ¬ z.toNat < x.toNat := by omega
                simp only [xz, zx, if_false]
                exact ih b c h1 h2
theorem less_cmp (a b : List UInt8) : Op.bytesLess a b = decide (cmpB a b = -1) := by
  unfold cmpB
  induction a generalizing b with
  | nil => cases b <;> simp [Op.bytesLess, Lib.compareBytes]
  | cons x a ih =>
    cases b with
    | nil => simp [Op.bytesLess, Lib.compareBytes]
    | cons y b =>
      unfold Op.bytesLess Lib.compareBytes
      rw [ih b]
      by_cases h1 : x < y
      · simp [h1]
      · by_cases h2 : y < x
        · have hne : (x == y) = false := by
            rw [beq_eq_false_iff_ne]
            rintro rfl
            exact absurd h2 (by simp)
          simp [h1, h2, hne]
        · have : x = y := UInt8.le_antisymm (UInt8.not_lt.1 h2) (UInt8.not_lt.1 h1)
          simp [this]

theorem rev_get (l : List ByteArray) (k : Nat) (hk : k < l.length) : l.reverse.drop k = l[l.length - 1 - k] :: l.reverse.drop (k + 1) := by
  rw [List.drop_eq_getElem_cons (by simpa using hk)]
  congr 1
  rw [List.getElem_reverse]
theorem cmpR_step (a b : List ByteArray) (k : Nat) (ha : k < a.length) (hb : k < b.length) :
    cmpR (a.reverse.drop k) (b.reverse.drop k) =
      if cmpB (bytes (lowS a[a.length - 1 - k])) (bytes (lowS b[b.length - 1 - k])) = 0 then cmpR (a.reverse.drop (k + 1)) (b.reverse.drop (k + 1))
      else cmpB (bytes (lowS a[a.length - 1 - k])) (bytes (lowS b[b.length - 1 - k])) := by
  rw [rev_get a k ha, rev_get b k hb, cmpR]
theorem cmpR_end (a b : List ByteArray) (k : Nat) (h : k = min a.length b.length) :
    cmpR (a.reverse.drop k) (b.reverse.drop k) = if a.length < b.length then -1 else if b.length < a.length then 1 else 0 := by
  by_cases h1 : a.length < b.length
  · rw [if_pos h1, show k = a.length from by omega, List.drop_eq_nil_of_le (as := a.reverse) (by simp), rev_get b a.length h1, cmpR]
  · rw [if_neg h1]
    by_cases h2 : b.length < a.length
    · rw [if_pos h2, show k = b.length from by omega, List.drop_eq_nil_of_le (as := b.reverse) (by simp), rev_get a b.length h2, cmpR]
    · rw [if_neg h2, List.drop_eq_nil_of_le (as := b.reverse) (by simp; omega), List.drop_eq_nil_of_le (as := a.reverse) (by simp; omega), cmpR]

theorem cmpR_zero (a b : List ByteArray) : cmpR a b = 0 ↔ a.map lowS = b.map lowS := by
  induction a generalizing b with
  | nil => cases b <;> simp [cmpR]
  | cons x a ih =>
    cases b with
    | nil => simp [cmpR]
    | cons y b =>
      simp only [cmpR, List.map_cons, List.cons.injEq]
      by_cases h : cmpB (bytes (lowS x)) (bytes (lowS y)) = 0
      · rw [if_pos h, ih b]
        exact ⟨fun hh => ⟨bytes_inj (cmpB_eq h), hh⟩, fun hh => hh.2⟩
      · rw [if_neg h]
        refine ⟨fun hh => absurd hh h, fun hh => ?_⟩
        rw [hh.1] at h
        exact absurd (cmpB_refl _) h
theorem cmpN_zero (a b : List ByteArray) : cmpN a b = 0 ↔ a.map lowS = b.map lowS := by
  rw [cmpN, cmpR_zero, List.map_reverse, List.map_reverse]
  exact List.reverse_inj
theorem sameN_eq (a b : List ByteArray) : sameN a b = decide (a.map lowS = b.map lowS) := decide_eq_decide.2 (cmpN_zero a b)
theorem okN_drop {l : List ByteArray} (h : OkN l) (i : Nat) : OkN (l.drop i) := ⟨by rw [List.length_drop]; have := h.1; omega, fun s hs => h.2 s (List.mem_of_mem_drop hs)⟩

/-! the text -/
def esc (c : UInt8) : List UInt8 :=
  if c = 46 ∨ c = 92 then [92, c] else if c < 33 ∨ 126 < c then [92, 48 + c / 100, 48 + c / 10 % 10, 48 + c % 10] else [c]
def escL (l : List UInt8) : List UInt8 := l.flatMap esc
def textT (l : List ByteArray) : List UInt8 := l.flatMap fun s => escL (bytes s) ++ [46]
def textN (l : List ByteArray) : List UInt8 := if l = [] then [46] else textT l
theorem escL_take (l : List UInt8) (k : Nat) (hk : k < l.length) : escL (l.take (k + 1)) = escL (l.take k) ++ esc l[k] := by
  rw [escL, List.take_succ_eq_append_getElem hk, List.flatMap_append]
  simp [escL]
theorem textT_take (l : List ByteArray) (k : Nat) (hk : k < l.length) : textT (l.take (k + 1)) = textT (l.take k) ++ escL (bytes l[k]) ++ [46] := by
  rw [textT, List.take_succ_eq_append_getElem hk, List.flatMap_append]
  simp [textT]
theorem esc_le (c : UInt8) : 1 ≤ (esc c).length ∧ (esc c).length ≤ 4 := by
  unfold esc
  split
  · simp
  · split <;> simp
theorem escL_le (l : List UInt8) : (escL l).length ≤ 4 * l.length := by
  induction l with
  | nil => simp [escL]
  | cons c l ih => simp only [escL, List.flatMap_cons, List.length_append, List.length_cons] at *; have := esc_le c; omega
theorem textT_le (l : List ByteArray) : (textT l).length ≤ 4 * sumS l + l.length := by
  induction l with
  | nil => simp [textT]
  | cons s l ih =>
    simp only [textT, List.flatMap_cons, List.length_append, List.length_cons, List.length_nil, sumS] at *
    have := escL_le (bytes s)
    rw [bytes_length] at this
    omega
theorem dg1 (c : UInt8) : (48 : Int) + (c.toNat : Int) / 100 = ((48 + c / 100 : UInt8).toNat : Int) := by
  have h := c.toNat_lt
  rw [UInt8.toNat_add, UInt8.toNat_div]
  have h1 : (48 : UInt8).toNat = 48 := rfl
  have h2 : (100 : UInt8).toNat = 100 := rfl
  rw [h1, h2]
  omega
theorem dg2 (c : UInt8) : (48 : Int) + (c.toNat : Int) / 10 % 10 = ((48 + c / 10 % 10 : UInt8).toNat : Int) := by
  have h := c.toNat_lt
  rw [UInt8.toNat_add, UInt8.toNat_mod, UInt8.toNat_div]
  have h1 : (48 : UInt8).toNat = 48 := rfl
  have h2 : (10 : UInt8).toNat = 10 := rfl
  rw [h1, h2]
  omega
theorem dg3 (c : UInt8) : (48 : Int) + (c.toNat : Int) % 10 = ((48 + c % 10 : UInt8).toNat : Int) := by
  have h := c.toNat_lt
  rw [UInt8.toNat_add, UInt8.toNat_mod]
  have h1 : (48 : UInt8).toNat = 48 := rfl
  have h2 : (10 : UInt8).toNat = 10 := rfl
  rw [h1, h2]
  omega
theorem u8_eq {c : UInt8} {n : Nat} (h : c.toNat = n) (hn : n < 256 := by decide) : c = UInt8.ofNat n := by
  apply UInt8.toNat_inj.1
  rw [h, UInt8.toNat_ofNat']
  omega
theorem esc_dot {c : UInt8} (h : (c.toNat : Int) = 46 ∨ (c.toNat : Int) = 92) : esc c = [92, c] := by
  rw [esc, if_pos]
  rcases h with h | h
  · exact .inl (u8_eq (n := 46) (by omega))
  · exact .inr (u8_eq (n := 92) (by omega))
theorem esc_code {c : UInt8} (h : ¬ ((c.toNat : Int) = 46 ∨ (c.toNat : Int) = 92)) (h' : (c.toNat : Int) < 33 ∨ 126 < (c.toNat : Int)) : esc c = [92, 48 + c / 100, 48 + c / 10 % 10, 48 + c % 10] := by
  rw [esc, if_neg, if_pos]
  · rcases h' with h' | h'
    · exact .inl (UInt8.lt_iff_toNat_lt.2 (by have : (33 : UInt8).toNat = 33 := rfl; omega))
    · exact .inr (UInt8.lt_iff_toNat_lt.2 (by have : (126 : UInt8).toNat = 126 := rfl; omega))
  · rintro (rfl | rfl)
    · exact h (.inl rfl)
    · exact h (.inr rfl)
theorem esc_plain {c : UInt8} (h : ¬ ((c.toNat : Int) = 46 ∨ (c.toNat : Int) = 92)) (h' : ¬ ((c.toNat : Int) < 33 ∨ 126 < (c.toNat : Int))) : esc c = [c] := by
  rw [esc, if_neg, if_neg]
  · rintro (h1 | h1)
    · exact h' (.inl (by have := UInt8.lt_iff_toNat_lt.1 h1; have : (33 : UInt8).toNat = 33 := rfl; omega))
    · exact h' (.inr (by have := UInt8.lt_iff_toNat_lt.1 h1; have : (126 : UInt8).toNat = 126 := rfl; omega))
  · rintro (rfl | rfl)
    · exact h (.inl rfl)
    · exact h (.inr rfl)

/-! names read off bytes -/
def openF : Nat → List UInt8 → Nat → List ByteArray → Option (List ByteArray × Nat)
  | 0, _, _, _ => none
  | f + 1, b, i, acc =>
    match b[i]? with
    | none => none
    | some k =>
      if k.toNat = 0 then some (acc, i + 1)
      else if 63 < k.toNat ∨ b.length - i - 1 < k.toNat then none
      else openF f b (i + 1 + k.toNat) (acc ++ [mkS ((b.drop (i + 1)).take k.toNat)])
def openN (b : List UInt8) : List ByteArray × Int × Int :=
  match openF (b.length + 1) b 0 [] with
  | none => ([], 0, 30)
  | some (n, i) => if 255 < i then ([], 0, 31) else (n, (i : Int), 0)
theorem sumS_append (a b : List ByteArray) : sumS (a ++ b) = sumS a + sumS b := by
  induction a with
  | nil => simp [sumS]
  | cons s a ih => simp only [List.cons_append, sumS, ih]; omega
/-- What has been read: labels that may be, and how far. -/
def ReadSoFar (acc : List ByteArray) (i : Nat) : Prop := i = sumS acc + acc.length ∧ ∀ s ∈ acc, s.size ≠ 0 ∧ s.size ≤ 63
theorem readSoFar_step {acc : List ByteArray} {b : List UInt8} {i k : Nat} (h : ReadSoFar acc i) (hk : k ≠ 0) (hk2 : k ≤ 63) (hle : k ≤ b.length - i - 1) :
    ReadSoFar (acc ++ [mkS ((b.drop (i + 1)).take k)]) (i + 1 + k) := by
  have hsz : (mkS ((b.drop (i + 1)).take k)).size = k := by rw [size_mkS, List.length_take, List.length_drop]; omega
  refine ⟨?_, ?_⟩
  · have h1 := h.1
    rw [sumS_append, List.length_append]
    simp only [sumS, hsz, List.length_singleton]
    omega
  · intro s hs
    rw [List.mem_append, List.mem_singleton] at hs
    rcases hs with hs | rfl
    · exact h.2 s hs
    · rw [hsz]; exact ⟨hk, hk2⟩
theorem checkN_read {acc : List ByteArray} {i : Nat} (h : ReadSoFar acc i) : checkN acc = if 255 < i + 1 then 31 else 0 := by
  have h1 : acc.any (fun s => decide (s.size = 0)) = false := by
    rw [← Bool.not_eq_true, List.any_eq_true]
    rintro ⟨s, hs, h0⟩
    exact (h.2 s hs).1 (by simpa using h0)
  have h2 : acc.any (fun s => decide (63 < s.size)) = false := by
    rw [← Bool.not_eq_true, List.any_eq_true]
    rintro ⟨s, hs, h0⟩
    have := (h.2 s hs).2
    simp at h0
    omega
  rw [checkN, h1, h2, h.1]
  simp only [Bool.false_eq_true, if_false, false_or]
  by_cases hc : 255 < 1 + sumS acc + acc.length
  · rw [if_pos hc, if_pos (by omega)]
  · rw [if_neg hc, if_neg (by omega)]
theorem openF_end {f : Nat} {b : List UInt8} {i : Nat} {acc : List ByteArray} (hf : 0 < f) (hi : b.length ≤ i) : openF f b i acc = none := by
  cases f with
  | zero => omega
  | succ f => rw [openF, List.getElem?_eq_none hi]
theorem openF_zero {f : Nat} {b : List UInt8} {i : Nat} {acc : List ByteArray} (hf : 0 < f) (hi : i < b.length) (h0 : b[i].toNat = 0) : openF f b i acc = some (acc, i + 1) := by
  cases f with
  | zero => omega
  | succ f => rw [openF, List.getElem?_eq_getElem hi]; simp [h0]
theorem openF_bad {f : Nat} {b : List UInt8} {i : Nat} {acc : List ByteArray} (hf : 0 < f) (hi : i < b.length) (h0 : b[i].toNat ≠ 0) (h : 63 < b[i].toNat ∨ b.length - i - 1 < b[i].toNat) : openF f b i acc = none := by
  cases f with
  | zero => omega
  | succ f => rw [openF, List.getElem?_eq_getElem hi]; simp [h0, h]
theorem openF_next {f : Nat} {b : List UInt8} {i : Nat} {acc : List ByteArray} (hi : i < b.length) (h0 : b[i].toNat ≠ 0) (h : ¬ (63 < b[i].toNat ∨ b.length - i - 1 < b[i].toNat)) :
    openF (f + 1) b i acc = openF f b (i + 1 + b[i].toNat) (acc ++ [mkS ((b.drop (i + 1)).take b[i].toNat)]) := by
  rw [openF, List.getElem?_eq_getElem hi]; simp only [h0, h, if_false]
end Go.Proofs.Ytjdgckamjgldmaa
