/- What the settings' functions come to. No program in sight. -/
import Derived.Test.YtjdgckamjgldmaaSpecR
namespace Go.Proofs.Ytjdgckamjgldmaa

/-- Settings. -/
structure Cf where
  apex : List ByteArray
  kt : Nat
  pr : Nat
  dt : Nat
  dp : Nat
  va : Nat
  le : Nat
  ga : Nat
  mt : Nat
  salt : List UInt8
  it : Nat
  h : Int
  sz : Nat
structure Cf.ok (c : Cf) : Prop where
  kt : c.kt < 4294967296
  pr : c.pr < 4294967296
  dt : c.dt < 4294967296
  dp : c.dp < 4294967296
  va : c.va < 4294967296
  le : c.le < 4294967296
  ga : c.ga < 4294967296
  mt : c.mt < 4294967296
  it : c.it < 65536
  h : -9223372036854775808 ≤ c.h ∧ c.h ≤ 9223372036854775807
  sz : c.sz < 65536
def bigL (c : Cf) : List Nat := [c.kt, c.pr, c.dt, c.dp, c.mt, c.ga, c.le, c.va]
def cb1 (c : Cf) : Bool := decide (checkN c.apex ≠ 0 ∨ c.apex.length = 0 ∨ 200 < (wireL c.apex).length + 1)
def cb2 (c : Cf) : Bool := (bigL c).any fun n => decide (16777216 < n)
def cb3 (c : Cf) : Bool := decide (c.kt < 1 ∨ c.mt < c.kt)
def cb4 (c : Cf) : Bool := decide (c.le ≤ c.mt + c.ga ∨ c.va ≤ c.le + c.ga)
def cb5 (c : Cf) : Bool := decide (16 < c.salt.length ∨ 50 < c.it)
def cb6 (c : Cf) : Bool := decide (c.h < 0 ∨ 10 < c.h ∨ c.sz < 512)
def checkC (c : Cf) : Int := if (cb1 c || cb2 c || cb3 c || cb4 c || cb5 c || cb6 c) = true then 100 else 0
def lightC (c : Cf) : Bool := lightN c.apex && decide (c.salt.length ≤ 300)

def be4 (n : Nat) : List UInt8 := [UInt8.ofNat (n / 16777216), UInt8.ofNat (n / 65536), UInt8.ofNat (n / 256), UInt8.ofNat n]
def be2 (n : Nat) : List UInt8 := [UInt8.ofNat (n / 256), UInt8.ofNat n]
def timeL (c : Cf) : List Nat := [c.kt, c.pr, c.dt, c.dp, c.va, c.le, c.ga, c.mt]
def hB (h : Int) : UInt8 := UInt8.ofNat (h % 256).toNat
def restC (c : Cf) : List UInt8 := (timeL c).flatMap be4 ++ (UInt8.ofNat c.salt.length :: (c.salt ++ (be2 c.it ++ [hB c.h] ++ be2 c.sz)))
def bytesC (c : Cf) : List UInt8 := (wireL c.apex ++ [0]) ++ restC c

def g4 (b : List UInt8) (i : Nat) : Nat := (b.getD i 0).toNat * 16777216 + (b.getD (i + 1) 0).toNat * 65536 + (b.getD (i + 2) 0).toNat * 256 + (b.getD (i + 3) 0).toNat
def g2 (b : List UInt8) (i : Nat) : Nat := (b.getD i 0).toNat * 256 + (b.getD (i + 1) 0).toNat
def mkC (n : List ByteArray) (b : List UInt8) : Cf :=
  { apex := n, kt := g4 b 0, pr := g4 b 4, dt := g4 b 8, dp := g4 b 12, va := g4 b 16, le := g4 b 20, ga := g4 b 24, mt := g4 b 28,
    salt := (b.drop 33).take (b.getD 32 0).toNat, it := g2 b (33 + (b.getD 32 0).toNat), h := ((b.getD (35 + (b.getD 32 0).toNat) 0).toNat : Int), sz := g2 b (36 + (b.getD 32 0).toNat) }
def badR (b : List UInt8) : Prop := b.length < 33 ∨ b.length ≠ 33 + (b.getD 32 0).toNat + 5
instance (b : List UInt8) : Decidable (badR b) := by unfold badR; infer_instance
def openR_ (n : List ByteArray) (b : List UInt8) : Option Cf := if badR b then none else some (mkC n b)
theorem g4_lt (b : List UInt8) (i : Nat) : g4 b i < 4294967296 := by
  have h1 := (b.getD i 0).toNat_lt
  have h2 := (b.getD (i + 1) 0).toNat_lt
  have h3 := (b.getD (i + 2) 0).toNat_lt
  have h4 := (b.getD (i + 3) 0).toNat_lt
  unfold g4
  omega
theorem g2_lt (b : List UInt8) (i : Nat) : g2 b i < 65536 := by
  have h1 := (b.getD i 0).toNat_lt
  have h2 := (b.getD (i + 1) 0).toNat_lt
  unfold g2
  omega
theorem mkC_ok (n : List ByteArray) (b : List UInt8) : (mkC n b).ok := by
  refine ⟨g4_lt _ _, g4_lt _ _, g4_lt _ _, g4_lt _ _, g4_lt _ _, g4_lt _ _, g4_lt _ _, g4_lt _ _, g2_lt _ _, ?_, g2_lt _ _⟩
  have h := (b.getD (35 + (b.getD 32 0).toNat) 0).toNat_lt
  show (-9223372036854775808 : Int) ≤ ((b.getD (35 + (b.getD 32 0).toNat) 0).toNat : Int) ∧ _
  simp only [mkC]
  omega
def openC (b : List UInt8) : Option Cf :=
  if (openN b).2.2 ≠ 0 then none else openR_ (openN b).1 (b.drop (openN b).2.1.toNat)

theorem checkC_zero {c : Cf} (h : checkC c = 0) : cb1 c = false ∧ cb2 c = false ∧ cb3 c = false ∧ cb4 c = false ∧ cb5 c = false ∧ cb6 c = false := by
  unfold checkC at h
  by_cases hc : (cb1 c || cb2 c || cb3 c || cb4 c || cb5 c || cb6 c) = true
  · rw [if_pos hc] at h
    cases h
  · simp only [Bool.not_eq_true, Bool.or_eq_false_iff] at hc
    exact ⟨hc.1.1.1.1.1, hc.1.1.1.1.2, hc.1.1.1.2, hc.1.1.2, hc.1.2, hc.2⟩
theorem sumS_ge {l : List ByteArray} (h : ∀ s ∈ l, s.size ≠ 0) : l.length ≤ sumS l := by
  induction l with
  | nil => simp
  | cons s l ih =>
    have h1 := h s (by simp)
    have h2 := ih (fun t ht => h t (by simp [ht]))
    simp only [sumS, List.length_cons]
    omega
theorem right_of_check {l : List ByteArray} (h : checkN l = 0) : rightN l = true := by
  unfold checkN at h
  by_cases h1 : l.any (fun s => decide (s.size = 0)) = true
  · rw [if_pos h1] at h
    cases h
  · rw [if_neg h1] at h
    by_cases h2 : l.any (fun s => decide (63 < s.size)) = true ∨ 255 < 1 + sumS l + l.length
    · rw [if_pos h2] at h
      cases h
    · simp only [List.any_eq_true, decide_eq_true_eq, not_exists, not_and, not_or, Nat.not_lt] at h1 h2
      have hs := sumS_ge (l := l) (fun s hs => h1 s hs)
      simp only [rightN, Bool.and_eq_true, decide_eq_true_eq, List.all_eq_true]
      exact ⟨⟨by omega, fun s hs => ⟨h1 s hs, h2.1 s hs⟩⟩, by omega⟩
theorem g4_be4 {n : Nat} (h : n < 4294967296) : (UInt8.ofNat (n / 16777216)).toNat * 16777216 + (UInt8.ofNat (n / 65536)).toNat * 65536 + (UInt8.ofNat (n / 256)).toNat * 256 + (UInt8.ofNat n).toNat = n := by
  simp only [UInt8.toNat_ofNat']
  omega
theorem g2_be2 {n : Nat} (h : n < 65536) : (UInt8.ofNat (n / 256)).toNat * 256 + (UInt8.ofNat n).toNat = n := by
  simp only [UInt8.toNat_ofNat']
  omega
theorem hB_back {h : Int} (h0 : 0 ≤ h) (h1 : h ≤ 10) : ((hB h).toNat : Int) = h := by
  simp only [hB, UInt8.toNat_ofNat']
  omega
theorem getD_behind (a b : List UInt8) (k n : Nat) (hk : k = a.length + n) : (a ++ b).getD k 0 = b.getD n 0 := by
  subst hk
  simp [List.getD_eq_getElem?_getD, List.getElem?_append_right]
theorem open_rest {c : Cf} (hc : checkC c = 0) (ho : c.ok) : openR_ c.apex (restC c) = some c := by
  obtain ⟨h1, h2, h3, h4, h5, h6⟩ := checkC_zero hc
  simp only [cb5, cb6, decide_eq_false_iff_not, not_or] at h5 h6
  have e : restC c = ((timeL c).flatMap be4 ++ [UInt8.ofNat c.salt.length]) ++ (c.salt ++ (be2 c.it ++ [hB c.h] ++ be2 c.sz)) := by simp [restC]
  have l33 : ((timeL c).flatMap be4 ++ [UInt8.ofNat c.salt.length]).length = 33 := by simp [timeL, be4]
  have hn : (UInt8.ofNat c.salt.length).toNat = c.salt.length := by rw [UInt8.toNat_ofNat']; omega
  have h32 : (restC c).getD 32 0 = UInt8.ofNat c.salt.length := by simp [restC, timeL, be4]
  have hlen : (restC c).length = 33 + c.salt.length + 5 := by simp [restC, timeL, be4, be2]; omega
  have hbeh : ∀ j, (restC c).getD (33 + c.salt.length + j) 0 = (be2 c.it ++ [hB c.h] ++ be2 c.sz).getD j 0 := fun j => by
    rw [e, getD_behind _ _ _ (c.salt.length + j) (by omega), getD_behind _ _ _ j rfl]
  unfold openR_
  rw [if_neg (by unfold badR; rw [h32, hn]; omega), mkC, h32, hn]
  have s1 : ((restC c).drop 33).take c.salt.length = c.salt := by
    rw [e, List.drop_append, l33, List.drop_eq_nil_of_le (by omega), Nat.sub_self, List.nil_append, List.drop_zero, List.take_left]
  have b0 := hbeh 0
  have b1 := hbeh 1
  have b2 := hbeh 2
  have b3 := hbeh 3
  have b4 := hbeh 4
  have hg2 : g2 (restC c) (33 + c.salt.length) = c.it := by
    simp only [g2, Nat.add_zero] at b0 b1 ⊢
    rw [b0, b1]
    exact g2_be2 ho.it
  have hg3 : g2 (restC c) (36 + c.salt.length) = c.sz := by
    simp only [g2]
    rw [show 36 + c.salt.length = 33 + c.salt.length + 3 by omega, show 33 + c.salt.length + 3 + 1 = 33 + c.salt.length + 4 by omega, b3, b4]
    exact g2_be2 ho.sz
  have hgh : (((restC c).getD (35 + c.salt.length) 0).toNat : Int) = c.h := by
    rw [show 35 + c.salt.length = 33 + c.salt.length + 2 by omega, b2]
    exact hB_back (by omega) (by omega)
  rw [s1, hg2, hg3, hgh]
  have t0 : g4 (restC c) 0 = c.kt := g4_be4 ho.kt
  have t1 : g4 (restC c) 4 = c.pr := g4_be4 ho.pr
  have t2 : g4 (restC c) 8 = c.dt := g4_be4 ho.dt
  have t3 : g4 (restC c) 12 = c.dp := g4_be4 ho.dp
  have t4 : g4 (restC c) 16 = c.va := g4_be4 ho.va
  have t5 : g4 (restC c) 20 = c.le := g4_be4 ho.le
  have t6 : g4 (restC c) 24 = c.ga := g4_be4 ho.ga
  have t7 : g4 (restC c) 28 = c.mt := g4_be4 ho.mt
  rw [t0, t1, t2, t3, t4, t5, t6, t7]
theorem open_more {c : Cf} (hc : checkC c = 0) (x : UInt8) : openR_ c.apex (restC c ++ [x]) = none := by
  obtain ⟨h1, h2, h3, h4, h5, h6⟩ := checkC_zero hc
  simp only [cb5, decide_eq_false_iff_not, not_or] at h5
  have hn : (UInt8.ofNat c.salt.length).toNat = c.salt.length := by rw [UInt8.toNat_ofNat']; omega
  have h32 : (restC c ++ [x]).getD 32 0 = UInt8.ofNat c.salt.length := by simp [restC, timeL, be4]
  have hlen : (restC c ++ [x]).length = 33 + c.salt.length + 6 := by simp [restC, timeL, be4, be2]; omega
  unfold openR_
  rw [if_pos]
  unfold badR
  rw [h32, hn]
  omega
theorem right_of_checkC {c : Cf} (hc : checkC c = 0) : rightN c.apex = true := by
  have h1 := (checkC_zero hc).1
  simp only [cb1, decide_eq_false_iff_not, not_or, Decidable.not_not] at h1
  exact right_of_check h1.1
theorem openC_of {c : Cf} (hc : checkC c = 0) (r : List UInt8) : openC ((wireL c.apex ++ [0]) ++ r) = openR_ c.apex r := by
  rw [openC, open_wire (right_of_checkC hc)]
  simp
theorem open_back {c : Cf} (hc : checkC c = 0) (ho : c.ok) : openC (bytesC c) = some c := by
  rw [bytesC, openC_of hc, open_rest hc ho]
theorem open_back_more {c : Cf} (hc : checkC c = 0) (x : UInt8) : openC (bytesC c ++ [x]) = none := by
  rw [bytesC, List.append_assoc, openC_of hc, open_more hc]
end Go.Proofs.Ytjdgckamjgldmaa
