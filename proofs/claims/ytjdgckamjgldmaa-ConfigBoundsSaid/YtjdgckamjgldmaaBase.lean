/- Words and small laws that all walks of this seat share: bytes, strings, names. -/
import Derived.Test.YtjdgckamjgldmaaProg
import Derived.Test.YtjdgckamjgldmaaEng
import Derived.Test.YtjdgckamjgldmaaSpec
import Derived.KernelRfl
namespace Go.Proofs.Ytjdgckamjgldmaa
open Go.RowKit Go.Eng

abbrev bv (b : UInt8) : Value := byteV b
def sv (s : ByteArray) : Value := .string s
theorem strCells_bytes (s : ByteArray) : Lib.strCells s = (bytes s).map bv := rfl

theorem info5 : (Try.prog.info? 5).map (fun i => (i.zero, i.size, i.bytes)) = some (some (.int .u8 0), 1, 1) := by kernel_rfl
theorem info9 : (Try.prog.info? 9).map (fun i => (i.zero, i.size, i.bytes)) = some (some (.string ByteArray.empty), 1, 16) := by kernel_rfl
theorem ty25 : ElemT Try.prog 25 5 1 (.int .u8 0) := ⟨Try.underlying25, info_parts info5, rfl, fun _ => by kernel_rfl⟩
theorem ty23 : ElemT Try.prog 23 9 16 (.string ByteArray.empty) := ⟨Try.underlying23, info_parts info9, rfl, fun _ => by kernel_rfl⟩

/-- Bytes of the call's own. -/
def OwnB (w : World) (base : Nat) (v : Value) (l : List UInt8) : Prop := w.ownsRow base 5 1 v l.length (l.map bv)
/-- A name of the call's own. -/
def OwnN (w : World) (base : Nat) (v : Value) (l : List ByteArray) : Prop := w.ownsRow base 9 1 v l.length (l.map sv)
theorem OwnB.sl {w : World} {base : Nat} {v : Value} {l : List UInt8} (h : OwnB w base v l) : Sl w v (l.map bv) := Sl.of_own h
theorem OwnN.sl {w : World} {base : Nat} {v : Value} {l : List ByteArray} (h : OwnN w base v l) : Sl w v (l.map sv) := Sl.of_own h
theorem OwnB.nil (w : World) (base : Nat) : OwnB w base (.slice none 0 0) [] := World.ownsRow_nil _ _ _ _
theorem OwnN.nil (w : World) (base : Nat) : OwnN w base (.slice none 0 0) [] := World.ownsRow_nil _ _ _ _
theorem own_below {w w' : World} {base : Nat} {e : TypeId} {v : Value} {n : Nat} {xs : List Value} (h : w.ownsRow base e 1 v n xs) (hg : w.grownBy w' v.ownBlock) (hb : base ≤ w.heap.size) : Below base w w' :=
  ⟨hg.os, hg.tape, hg.output, hg.size, fun k hk => hg.block k (by omega) fun he => by have := h.lt k he.symm; omega⟩
theorem OwnB.below {w w' : World} {base : Nat} {v : Value} {l : List UInt8} (h : OwnB w base v l) (hg : w.grownBy w' v.ownBlock) (hb : base ≤ w.heap.size) : Below base w w' := own_below h hg hb
theorem OwnN.below {w w' : World} {base : Nat} {v : Value} {l : List ByteArray} (h : OwnN w base v l) (hg : w.grownBy w' v.ownBlock) (hb : base ≤ w.heap.size) : Below base w w' := own_below h hg hb

theorem own_keep {w w' : World} {base : Nat} {e : TypeId} {v : Value} {n : Nat} {xs : List Value} (h : w.ownsRow base e 1 v n xs) (hb : Below w.heap.size w w') : w'.ownsRow base e 1 v n xs :=
  h.kept (row := none) ⟨hb.os, hb.tape, hb.output, hb.size, fun k hk _ => hb.block k hk⟩ (by cases hv : v.ownBlock <;> simp)
theorem OwnN.keep {w w' : World} {base : Nat} {v : Value} {l : List ByteArray} (h : OwnN w base v l) (hb : Below w.heap.size w w') : OwnN w' base v l := own_keep h hb
theorem OwnB.keep {w w' : World} {base : Nat} {v : Value} {l : List UInt8} (h : OwnB w base v l) (hb : Below w.heap.size w w') : OwnB w' base v l := own_keep h hb
theorem wrapU8 (n : Nat) : IntKind.u8.wrap (n : Int) = ((UInt8.ofNat n).toNat : Int) := by
  rw [IntKind.wrap_u8, UInt8.toNat_ofNat']
  omega
theorem i64_eq {n c : Int} (h : -9223372036854775808 ≤ n ∧ n ≤ 9223372036854775807) (he : n = c) : IntKind.i64.wrap n = c := by rw [IntWalk.i64_in _ h, he]
/-- The value of a name. -/
def Nm (w : World) (v : Value) (l : List ByteArray) : Prop := Sl w v (l.map sv)
def Bs (w : World) (v : Value) (l : List UInt8) : Prop := Sl w v (l.map bv)

theorem Nm.at_ {w : World} {A : Option Addr} {n c : Nat} {l : List ByteArray} (h : Nm w (.slice A n c) l) {k : Nat} (hk : k < l.length) : ∃ ad, A = some ad ∧ w.cell? (ad.add k) = some (sv l[k]) :=
  Sl.elem h (by simp [hk])
theorem Nm.keep {w w' : World} {v : Value} {l : List ByteArray} (h : Nm w v l) (hb : Below w.heap.size w w') : Nm w' v l := Sl.below h hb
theorem Bs.keep {w w' : World} {v : Value} {l : List UInt8} (h : Bs w v l) (hb : Below w.heap.size w w') : Bs w' v l := Sl.below h hb
theorem Bs.at_ {w : World} {A : Option Addr} {n c : Nat} {l : List UInt8} (h : Bs w (.slice A n c) l) {k : Nat} (hk : k < l.length) : ∃ ad, A = some ad ∧ w.cell? (ad.add k) = some (bv l[k]) :=
  Sl.elem h (by simp [hk])
theorem below_cell {w w' : World} (hb : Below w.heap.size w w') {p : Addr} {v : Value} (h : w.cell? p = some v) : w'.cell? p = some v := (hb.cell (World.block_lt_of_cell? w p h)).trans h

theorem Nm.drop {w : World} {A : Option Addr} {n c : Nat} {l : List ByteArray} (h : Nm w (.slice A n c) l) {i : Nat} (hi : i ≤ n) : Nm w (.slice (if c = i then A else A.map (·.add i)) (n - i) (c - i)) (l.drop i) := by
  have := Sl.drop h hi
  rw [← List.map_drop] at this
  exact this
theorem Nm.cap {w : World} {A : Option Addr} {n c : Nat} {l : List ByteArray} (h : Nm w (.slice A n c) l) : n ≤ c := Sl.cap h
theorem Bs.drop {w : World} {A : Option Addr} {n c : Nat} {l : List UInt8} (h : Bs w (.slice A n c) l) {i : Nat} (hi : i ≤ n) : Bs w (.slice (if c = i then A else A.map (·.add i)) (n - i) (c - i)) (l.drop i) := by
  have := Sl.drop h hi
  rw [← List.map_drop] at this
  exact this
theorem Bs.sub {w : World} {A : Option Addr} {n c : Nat} {l : List UInt8} (h : Bs w (.slice A n c) l) {i k : Nat} (hi : i ≤ k) (hk : k ≤ n) : Bs w (.slice (if c = i then A else A.map (·.add i)) (k - i) (c - i)) ((l.take k).drop i) := by
  have := Sl.sub h hi hk
  rw [← List.map_take, ← List.map_drop] at this
  exact this
/-- Two rows of the call's own that do not meet. -/
theorem OwnF_kept {w w' : World} {base : Nat} {el : TypeId} {v : Value} {xs : List Value} {row : Option Nat} (h : OwnF w base el v xs) (hg : w.grownBy w' row) (hne : v.ownBlock ≠ row) : OwnF w' base el v xs := by
  obtain ⟨g, cap, cur, fr, rfl, h1, hle, hgg, h2⟩ := h
  exact ⟨g, cap, cur, fr, rfl, h1, hle, (hg.block g (Array.getElem?_eq_some_iff.1 hgg).1 hne).trans hgg, h2⟩
theorem OwnF_lt {w : World} {base : Nat} {el : TypeId} {v : Value} {xs : List Value} (h : OwnF w base el v xs) : ∃ g, v.ownBlock = some g ∧ base ≤ g ∧ g < w.heap.size := by
  obtain ⟨g, cap, cur, fr, rfl, h1, hle, hgg, h2⟩ := h
  exact ⟨g, rfl, h1, (Array.getElem?_eq_some_iff.1 hgg).1⟩
theorem apart_step {w : World} {v b b' : Value} {base : Nat} {el : TypeId} {xs : List Value} (h : OwnF w base el v xs) (hne : v.ownBlock ≠ b.ownBlock) (hat : b'.ownBlock = b.ownBlock ∨ ∃ g, b'.ownBlock = some g ∧ w.heap.size ≤ g) : v.ownBlock ≠ b'.ownBlock := by
  rcases hat with h1 | ⟨g, h1, h2⟩
  · rw [h1]; exact hne
  · obtain ⟨g', h3, _, h5⟩ := OwnF_lt h
    rw [h1, h3]
    intro he
    injection he with he
    omega

section
variable {N : Nat} {ds : List Deferred} {e : Env} {w : World} {Q : Exit → Act → World → Prop} {ops : Array Oper} {rest : List Oper} {o : Oper}
theorem WL.apB {s x : Operand} {d : Tmp} {base : Nat} {v : Value} {l : List UInt8} (b : UInt8) (hown : OwnB w base v l)
    (ho : o.op = .call { callee := .builtin .append, args := #[s, x], argTypes := #[25, 25] })
    (hs : Opd e s = some v) (hx : Opd e x = some (.slice (some ⟨w.heap.size, 0, none⟩) 1 1)) (hn : l.length < 140737488355328) (hb : base ≤ w.heap.size)
    (K : ∀ v' w', OwnB w' base v' (l ++ [b]) → w.grownBy w' v.ownBlock → (v'.ownBlock = v.ownBlock ∨ ∃ g, v'.ownBlock = some g ∧ w.heap.size ≤ g) → WL Try.prog N ds ops Q rest ((d, v') :: e) w')
    (hg : o.guard = none := by rfl) (hd : o.dst = some d := by rfl) (hdN : d < N := by decide) : WL Try.prog N ds ops Q (o :: rest) e (w.alloc (.cells #[bv b] 5)) :=
  WL.app1 ty25 hown ho hs hx rfl (by unfold maxLen; omega) (by omega) hb (fun v' w' h1 h2 h3 => K v' w' (by simpa [OwnB] using h1) h2 h3) hg hd hdN
theorem WL.apN {s x : Operand} {d : Tmp} {base : Nat} {v : Value} {l : List ByteArray} (b : ByteArray) (hown : OwnN w base v l)
    (ho : o.op = .call { callee := .builtin .append, args := #[s, x], argTypes := #[23, 23] })
    (hs : Opd e s = some v) (hx : Opd e x = some (.slice (some ⟨w.heap.size, 0, none⟩) 1 1)) (hn : l.length < 8796093022208) (hb : base ≤ w.heap.size)
    (K : ∀ v' w', OwnN w' base v' (l ++ [b]) → w.grownBy w' v.ownBlock → (v'.ownBlock = v.ownBlock ∨ ∃ g, v'.ownBlock = some g ∧ w.heap.size ≤ g) → WL Try.prog N ds ops Q rest ((d, v') :: e) w')
    (hg : o.guard = none := by rfl) (hd : o.dst = some d := by rfl) (hdN : d < N := by decide) : WL Try.prog N ds ops Q (o :: rest) e (w.alloc (.cells #[sv b] 9)) :=
  WL.app1 ty23 hown ho hs hx rfl (by unfold maxLen; omega) (by omega) hb (fun v' w' h1 h2 h3 => K v' w' (by simpa [OwnN] using h1) h2 h3) hg hd hdN
theorem WL.apS {s x : Operand} {d : Tmp} {base : Nat} {v : Value} {l : List UInt8} {t : ByteArray} (hown : OwnB w base v l)
    (ho : o.op = .call { callee := .builtin .append, args := #[s, x], argTypes := #[25, 9] })
    (hs : Opd e s = some v) (hx : Opd e x = some (.string t)) (hn : l.length + t.size ≤ 140737488355328) (hb : base ≤ w.heap.size)
    (K : ∀ v' w', OwnB w' base v' (l ++ bytes t) → w.grownBy w' v.ownBlock → WL Try.prog N ds ops Q rest ((d, v') :: e) w')
    (hg : o.guard = none := by rfl) (hd : o.dst = some d := by rfl) (hdN : d < N := by decide) : WL Try.prog N ds ops Q (o :: rest) e w :=
  WL.appS ty25 Try.underlying9 hown ho hs hx hn hb (fun v' w' h1 h2 => K v' w' (by rw [OwnB, List.length_append, bytes_length, List.map_append]; exact h1) h2) hg hd hdN
theorem WL.apL {s x : Operand} {d : Tmp} {base : Nat} {v u : Value} {l m : List UInt8} (hown : OwnB w base v l) (hm : Bs w u m)
    (ho : o.op = .call { callee := .builtin .append, args := #[s, x], argTypes := #[25, 25] })
    (hs : Opd e s = some v) (hx : Opd e x = some u) (hn : l.length + m.length ≤ 140737488355328) (hb : base ≤ w.heap.size)
    (K : ∀ v' w', OwnB w' base v' (l ++ m) → w.grownBy w' v.ownBlock → (v'.ownBlock = v.ownBlock ∨ ∃ g, v'.ownBlock = some g ∧ w.heap.size ≤ g) → WL Try.prog N ds ops Q rest ((d, v') :: e) w')
    (hg : o.guard = none := by rfl) (hd : o.dst = some d := by rfl) (hdN : d < N := by decide) : WL Try.prog N ds ops Q (o :: rest) e w :=
  WL.app ty25 hown hm ho hs hx (by intro q hq; simp at hq; obtain ⟨b, _, rfl⟩ := hq; rfl) (by simp [maxLen]; omega) (by simp; omega) hb (fun v' w' h1 h2 h3 => K v' w' (by simpa [OwnB] using h1) h2 h3) hg hd hdN
theorem WL.buildB {l : List Operand} {d : Tmp} (m : List UInt8) (ho : o.op = .buildSlice 25 l.length (enumP 0 l).toArray)
    (hx : opds e l = some (m.map bv)) (hn : l.length ≤ 10000) (hn0 : 0 < l.length)
    (K : ∀ u w', Bs w' u m → Below w.heap.size w w' → w.grownBy w' none → WL Try.prog N ds ops Q rest ((d, u) :: e) w')
    (hg : o.guard = none := by rfl) (hd : o.dst = some d := by rfl) (hdN : d < N := by decide) : WL Try.prog N ds ops Q (o :: rest) e w :=
  WL.build ty25 ho hx (by intro v hv; simp at hv; obtain ⟨b, _, rfl⟩ := hv; rfl) hn hn0 (fun hs => K _ _ hs (below_alloc w _) (World.grownBy_alloc w _ none)) hg hd hdN
end
end Go.Proofs.Ytjdgckamjgldmaa
