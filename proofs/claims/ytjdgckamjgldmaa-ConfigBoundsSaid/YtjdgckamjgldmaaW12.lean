/- Walks: the reader of a text. -/
import Derived.Test.YtjdgckamjgldmaaW10
import Derived.Test.YtjdgckamjgldmaaEngC
import Derived.Test.YtjdgckamjgldmaaSpecP
import Derived.Test.YtjdgckamjgldmaaW9
import Derived.Test.YtjdgckamjgldmaaW11
namespace Go.Proofs.Ytjdgckamjgldmaa
open Go.RowKit Go.Eng

theorem bodied54 : Bodied Try.prog 54 := bodied Try.func54 rfl rfl
theorem bodied57 : Bodied Try.prog 57 := bodied Try.func57 rfl rfl
theorem bodied64 : Bodied Try.prog 64 := bodied Try.func64 rfl rfl
theorem bodied65 : Bodied Try.prog 65 := bodied Try.func65 rfl rfl
theorem bodied55 : Bodied Try.prog 55 := bodied Try.func55 rfl rfl
theorem sz25 : ∀ w, (sizeOf 25).run Try.prog w = .ok 1 w := fun _ => by kernel_rfl
theorem sz4 : ∀ w, (sizeOf 4).run Try.prog w = .ok 1 w := fun _ => by kernel_rfl
theorem pl4 : ∀ w, (isAgg 4).run Try.prog w = .ok false w := fun _ => by kernel_rfl
abbrev nilV : Value := .slice none 0 0
def Ap (v u : Value) : Prop := ∀ k, v.ownBlock = some k → u.ownBlock ≠ some k
theorem Ap.nilR (v : Value) : Ap v nilV := fun _ _ h => by cases h
theorem Ap.nilL (v : Value) : Ap nilV v := fun _ h => by cases h
theorem Ap.symm {v u : Value} (h : Ap v u) : Ap u v := fun k h1 h2 => h k h2 h1
theorem own_ge {w : World} {base : Nat} {el : TypeId} {v : Value} {n : Nat} {xs : List Value} (h : w.ownsRow base el 1 v n xs) {k : Nat} (hk : v.ownBlock = some k) : base ≤ k ∧ k < w.heap.size ∧ ∃ cs fz, w.heap[k]? = some (.cells cs el fz) := by
  rcases h.2 with ⟨rfl, _⟩ | ⟨g, cap, cur, rfl, hb, hg, _⟩
  · cases hk
  · simp only [Value.ownBlock, Option.some.injEq] at hk
    subst hk
    exact ⟨hb, (Array.getElem?_eq_some_iff.1 hg).1, _, _, hg⟩
theorem Ap.step {w : World} {base : Nat} {el : TypeId} {v v' u : Value} {n : Nat} {xs : List Value} (h : Ap v u) (hu : w.ownsRow base el 1 u n xs) (hat : v'.ownBlock = v.ownBlock ∨ ∃ g, v'.ownBlock = some g ∧ w.heap.size ≤ g) : Ap v' u := fun k hk hu' => by
  rcases hat with h1 | ⟨g, h1, h2⟩
  · exact h k (h1 ▸ hk) hu'
  · have := (own_ge hu hu').2.1
    rw [h1] at hk
    cases hk
    omega
theorem Ap.types {w : World} {base : Nat} {el el' : TypeId} {v u : Value} {n m : Nat} {xs ys : List Value} (hv : w.ownsRow base el 1 v n xs) (hu : w.ownsRow base el' 1 u m ys) (hne : el ≠ el') : Ap v u := fun k hk hk' => by
  obtain ⟨_, _, cs, fz, h1⟩ := own_ge hv hk
  obtain ⟨_, _, cs', fz', h2⟩ := own_ge hu hk'
  rw [h1] at h2
  cases h2
  exact hne rfl
theorem own_ap {w w' : World} {base : Nat} {el : TypeId} {v u : Value} {n : Nat} {xs : List Value} (h : w.ownsRow base el 1 v n xs) (hg : w.grownBy w' u.ownBlock) (ha : Ap v u) : w'.ownsRow base el 1 v n xs :=
  h.kept hg (by
    cases hv : v.ownBlock with
    | none => exact .inl rfl
    | some k => exact .inr (Ne.symm (ha k hv)))
theorem own_set {w : World} {g i : Nat} {q : Value} {el : TypeId} {v : Value} {n : Nat} {xs : List Value} (h : w.ownsRow (g + 1) el 1 v n xs) : (w.setCell ⟨g, i, none⟩ q).ownsRow (g + 1) el 1 v n xs :=
  h.kept (grownBy_set1 w ⟨g, i, none⟩ q) (by
    cases hv : v.ownBlock with
    | none => exact .inl rfl
    | some k =>
      refine .inr fun he => ?_
      have h1 := (own_ge h hv).1
      cases he
      exact absurd (show g + 1 ≤ g from h1) (by omega))
/-- The reader at block g: what was read. -/
structure RdV (w : World) (g : Nat) (s : PS) (vn vl vc : Value) : Prop where
  f0 : Fld w g 0 vn
  f1 : Fld w g 1 vl
  f2 : Fld w g 2 vc
  f3 : Fld w g 3 (.bool s.sign)
  on : OwnN w (g + 1) vn s.n
  ol : OwnB w (g + 1) vl s.l
  oc : OwnB w (g + 1) vc s.code
  ap : Ap vl vc
  nc : s.code = [] → vc = nilV
section
variable {w w' : World} {g : Nat} {s : PS} {vn vl vc : Value}
theorem own_fld {i : Nat} {q v : Value} {el : TypeId} {n : Nat} {xs : List Value} (f : Fld w g i q) (h : w.ownsRow (g + 1) el 1 v n xs) (hg : w.grownBy w' v.ownBlock) : Fld w' g i q :=
  f.grown hg fun he => by have := (own_ge h he.symm).1; omega
theorem ne_cell {i j : Nat} (g : Nat) (h : i ≠ j) : (⟨g, i, none⟩ : Addr) ≠ ⟨g, j, none⟩ := fun he => h (by injection he)
theorem RdV.lt (h : RdV w g s vn vl vc) : g < w.heap.size := h.f0.lt
theorem RdV.putN (h : RdV w g s vn vl vc) {vn' : Value} {n' : List ByteArray} (ho : OwnN w' (g + 1) vn' n') (hg : w.grownBy w' vn.ownBlock) : RdV (w'.setCell ⟨g, 0, none⟩ vn') g { s with n := n' } vn' vl vc :=
  ⟨(own_fld h.f0 h.on hg).set _, (own_fld h.f1 h.on hg).far (ne_cell g (by decide)) _, (own_fld h.f2 h.on hg).far (ne_cell g (by decide)) _, (own_fld h.f3 h.on hg).far (ne_cell g (by decide)) _,
    own_set ho, own_set (own_ap h.ol hg (Ap.types h.ol h.on (by decide))), own_set (own_ap h.oc hg (Ap.types h.oc h.on (by decide))), h.ap, h.nc⟩
theorem RdV.putL (h : RdV w g s vn vl vc) {vl' : Value} {l' : List UInt8} (ho : OwnB w' (g + 1) vl' l') (hg : w.grownBy w' vl.ownBlock) (ha : Ap vl' vc) : RdV (w'.setCell ⟨g, 1, none⟩ vl') g { s with l := l' } vn vl' vc :=
  ⟨(own_fld h.f0 h.ol hg).far (ne_cell g (by decide)) _, (own_fld h.f1 h.ol hg).set _, (own_fld h.f2 h.ol hg).far (ne_cell g (by decide)) _, (own_fld h.f3 h.ol hg).far (ne_cell g (by decide)) _,
    own_set (own_ap h.on hg (Ap.types h.on h.ol (by decide))), own_set ho, own_set (own_ap h.oc hg h.ap.symm), ha, h.nc⟩
theorem RdV.putC (h : RdV w g s vn vl vc) {vc' : Value} {c' : List UInt8} (ho : OwnB w' (g + 1) vc' c') (hg : w.grownBy w' vc.ownBlock) (hat : vc'.ownBlock = vc.ownBlock ∨ ∃ k, vc'.ownBlock = some k ∧ w.heap.size ≤ k) (hn : c' = [] → vc' = nilV) : RdV (w'.setCell ⟨g, 2, none⟩ vc') g { s with code := c' } vn vl vc' :=
  ⟨(own_fld h.f0 h.oc hg).far (ne_cell g (by decide)) _, (own_fld h.f1 h.oc hg).far (ne_cell g (by decide)) _, (own_fld h.f2 h.oc hg).set _, (own_fld h.f3 h.oc hg).far (ne_cell g (by decide)) _,
    own_set (own_ap h.on hg (Ap.types h.on h.oc (by decide))), own_set (own_ap h.ol hg h.ap), own_set ho, (h.ap.symm.step h.ol hat).symm, hn⟩
theorem RdV.clearL (h : RdV w g s vn vl vc) : RdV (w.setCell ⟨g, 1, none⟩ nilV) g { s with l := [] } vn nilV vc :=
  ⟨h.f0.far (ne_cell g (by decide)) _, h.f1.set _, h.f2.far (ne_cell g (by decide)) _, h.f3.far (ne_cell g (by decide)) _, own_set h.on, OwnB.nil _ _, own_set h.oc, Ap.nilL _, h.nc⟩
theorem RdV.clearC (h : RdV w g s vn vl vc) : RdV (w.setCell ⟨g, 2, none⟩ nilV) g { s with code := [] } vn vl nilV :=
  ⟨h.f0.far (ne_cell g (by decide)) _, h.f1.far (ne_cell g (by decide)) _, h.f2.set _, h.f3.far (ne_cell g (by decide)) _, own_set h.on, own_set h.ol, OwnB.nil _ _, Ap.nilR _, fun _ => rfl⟩
theorem RdV.putS (h : RdV w g s vn vl vc) (b : Bool) : RdV (w.setCell ⟨g, 3, none⟩ (.bool b)) g { s with sign := b } vn vl vc :=
  ⟨h.f0.far (ne_cell g (by decide)) _, h.f1.far (ne_cell g (by decide)) _, h.f2.far (ne_cell g (by decide)) _, h.f3.set _, own_set h.on, own_set h.ol, own_set h.oc, h.ap, h.nc⟩
theorem RdV.drew (h : RdV w g s vn vl vc) : RdV w.drew g s vn vl vc := ⟨h.f0, h.f1, h.f2, h.f3, h.on, h.ol, h.oc, h.ap, h.nc⟩
theorem RdV.grown (h : RdV w g s vn vl vc) {row : Option Nat} (hg : w.grownBy w' row) (hr : ∀ k, row = some k → k ≠ g ∧ ∀ cs t f, w.heap[k]? ≠ some (.cells cs t f)) : RdV w' g s vn vl vc := by
  have hf : ∀ {i : Nat} {q : Value}, Fld w g i q → Fld w' g i q := fun f => f.grown hg (fun he => (hr g he.symm).1 rfl)
  have ho : ∀ {el : TypeId} {v : Value} {n : Nat} {xs : List Value}, w.ownsRow (g + 1) el 1 v n xs → w'.ownsRow (g + 1) el 1 v n xs := fun h => h.kept hg (by
    refine Decidable.or_iff_not_imp_left.2 fun hv he => ?_
    obtain ⟨k, hk⟩ := Option.ne_none_iff_exists'.1 hv
    obtain ⟨_, _, cs, fz, hh⟩ := own_ge h hk
    exact (hr k (he ▸ hk)).2 _ _ _ hh)
  exact ⟨hf h.f0, hf h.f1, hf h.f2, hf h.f3, ho h.on, ho h.ol, ho h.oc, h.ap, h.nc⟩
def Rd (w : World) (g : Nat) (s : PS) : Prop := ∃ vn vl vc, RdV w g s vn vl vc
def Bc (g : Nat) (w w' : World) : Prop := Below g w w' ∧ Still w w'
theorem Bc.refl (g : Nat) (w : World) : Bc g w w := ⟨Below.refl _ _, Still.refl _⟩
theorem Bc.trans {a b c : World} (h : Bc g a b) (k : Bc g b c) : Bc g a c := ⟨h.1.trans k.1, h.2.trans k.2⟩
theorem Bc.set (g i : Nat) (w : World) (v : Value) : Bc g w (w.setCell ⟨g, i, none⟩ v) := ⟨Below.setCell (p := (⟨g, i, none⟩ : Addr)) (B := g) (Below.refl g w) (Nat.le_refl g) v, Still.setCell _ _ _⟩
theorem Bc.grow {el : TypeId} {v : Value} {n : Nat} {xs : List Value} (h : w.ownsRow (g + 1) el 1 v n xs) (hs : g < w.heap.size) (hg : w.grownBy w' v.ownBlock) : Bc g w w' := ⟨(own_below h hg (by omega)).mono (by omega), Still.grown h hg⟩
theorem Bc.drew (g : Nat) (w : World) : Bc g w w.drew := ⟨(Below.refl _ _).drew, Still.drew _⟩
end
theorem own_cells {w : World} {base : Nat} {el : TypeId} {v : Value} {n : Nat} {xs : List Value} (h : w.ownsRow base el 1 v n xs) : v.cells = #[v] ∧ v.oneCell' = true := by
  rcases h.2 with ⟨rfl, _⟩ | ⟨g, cap, cur, rfl, _⟩ <;> exact ⟨rfl, rfl⟩
/-- A step of the reader. -/
def Steps (F : FuncId) (args : Array Value) (g : Nat) (res : Option PS) (w : World) : Prop := match res with
  | none => Panics Try.prog F args w (Failed 30) (fun w' => Below g w w')
  | some s => Runs Try.prog F args w fun r w' => r = .tuple #[] ∧ Rd w' g s ∧ Bc g w w'
-- (*signet/name.reader).end
theorem end57p (g : Nat) (s : PS) (vn vl vc : Value) (w : World) (hr : RdV w g s vn vl vc) (hl : s.l = []) : Steps 57 #[.pointer (some ⟨g, 0, none⟩)] g none w := by
  obtain ⟨Al, cl, hvl, -⟩ := id hr.ol.sl
  rw [List.length_map] at hvl
  subst hvl
  have hl0 : s.l.length = 0 := by rw [hl]; rfl
  show Panics _ _ _ _ _ _
  refine enter (N := 26) (args := [_]) Try.func57 rfl rfl (Nat.le_of_ble_eq_true rfl) ?_
  refine CW.seq ?_
  refine CW.seq ?_
  refine CW.region ?_
  refine WL.v (Val.move rfl rfl) ?_ -- d2
  refine WL.v (Val.nilCheck rfl rfl) ?_ -- d3
  refine WL.v (Val.fieldAddr ⟨g, 1, none⟩ rfl rfl (fun _ => by kernel_rfl)) ?_
  refine WL.v (Val.load rfl pl25 rfl (at_ hr.f1.1)) ?_
  refine WL.v (Val.lenSl rfl Try.underlying25 rfl) ?_ -- d6
  refine WL.v (Val.eqlI rfl rfl rfl) ?_ -- d7
  refine WL.nil ?_
  refine Ends.next ?_
  refine CW.condT rfl (decide_eq_true (by omega)) ?_
  refine CW.region ?_
  refine WL.callP bodied56 rfl rfl (fail56 _ _) ?_
  rintro _ rfl
  refine Ends.seqp ?_
  exact Ends.panicEnd ⟨rfl, Below.refl _ _⟩
-- hook not used: draw2
-- (*signet/name.reader).end
theorem end57r (g : Nat) (s : PS) (vn vl vc : Value) (w : World) (hr : RdV w g s vn vl vc) (hl : s.l ≠ []) (hs : Sml s 100000000) : Steps 57 #[.pointer (some ⟨g, 0, none⟩)] g (some { s with n := s.n ++ [mkS s.l], l := [] }) w := by
  obtain ⟨Al, cl, hvl, -⟩ := id hr.ol.sl
  rw [List.length_map] at hvl
  subst hvl
  have hl0 : s.l.length ≠ 0 := fun h => hl (List.eq_nil_of_length_eq_zero h)
  show Runs _ _ _ _ _
  refine enter (N := 26) (args := [_]) Try.func57 rfl rfl (Nat.le_of_ble_eq_true rfl) ?_
  refine CW.seq ?_
  refine CW.seq ?_
  refine CW.region ?_
  refine WL.v (Val.move rfl rfl) ?_ -- d2
  refine WL.v (Val.nilCheck rfl rfl) ?_ -- d3
  refine WL.v (Val.fieldAddr ⟨g, 1, none⟩ rfl rfl (fun _ => by kernel_rfl)) ?_
  refine WL.v (Val.load rfl pl25 rfl (at_ hr.f1.1)) ?_
  refine WL.v (Val.lenSl rfl Try.underlying25 rfl) ?_ -- d6
  refine WL.v (Val.eqlI rfl rfl rfl) ?_ -- d7
  refine WL.nil ?_
  refine Ends.next ?_
  refine CW.condF rfl (decide_eq_false (by omega)) ?_
  refine CW.skip ?_
  refine Ends.next ?_
  refine CW.draw (fun _ => True) trivial ?_
  refine WH.take 0 rfl rfl (Val.move rfl rfl) ?_ -- d9
  refine WH.take 1 rfl rfl (Val.move rfl rfl) ?_ -- d10
  refine WH.take 2 rfl rfl (Val.move rfl rfl) ?_ -- d11
  refine WH.take 3 rfl rfl (Val.nilCheck rfl rfl) ?_ -- d12
  refine WH.take 4 rfl rfl (Val.fieldAddr ⟨g, 0, none⟩ rfl rfl (fun _ => by kernel_rfl)) ?_ -- d13
  refine WH.take 6 rfl rfl (Val.move rfl rfl) ?_ -- d15
  refine WH.take 7 rfl rfl (Val.nilCheck rfl rfl) ?_ -- d16
  refine WH.take 8 rfl rfl (Val.fieldAddr ⟨g, 1, none⟩ rfl rfl (fun _ => by kernel_rfl)) ?_ -- d17
  -- HOLE: several ready: [5, 9]
  refine WH.fork (f' := 7) (L' := #[true, true, true, true, true, true, true, true, true, true, true, true, false, false, false, false, false, false, false]) (e' := [(14, vn), (20, .slice (some ⟨w.drew.heap.size, 0, none⟩) 1 1), (9, .pointer (some ⟨g, 0, none⟩)), (10, .pointer (some ⟨g, 0, none⟩))]) (w' := w.drew.alloc (.cells #[sv (mkS s.l)] 9)) ?_ (fun tail => ?_)
  rotate_left
  · refine WH.step2 5 9 rfl rfl (by kernel_rfl) ?_ ?_
    · refine WL.v (Val.load rfl pl23 rfl (at_ hr.drew.f0.1)) ?_
      refine WH.back trivial ?_
      refine WH.step 9 rfl ?_
      refine WL.v (Val.load rfl pl25 rfl (at_ hr.drew.f1.1)) ?_
      refine WH.back trivial ?_
      refine WH.step 10 rfl ?_
      refine WL.v (Val.toStr (l := s.l) Try.underlying25 Try.underlying9 Try.underlying5 rfl rfl (at_ hr.drew.ol.sl)) ?_
      refine WH.back trivial ?_
      refine WH.step 11 rfl ?_
      refine WL.build1 ty23 rfl rfl rfl ?_
      refine WH.back trivial ?_
      exact WH.join tail (by kernel_rfl) ⟨rfl, rfl, rfl, rfl, trivial⟩
    · refine WL.v (Val.load rfl pl25 rfl (at_ hr.drew.f1.1)) ?_
      refine WH.back trivial ?_
      refine WH.step2 5 10 rfl rfl (by kernel_rfl) ?_ ?_
      · refine WL.v (Val.load rfl pl23 rfl (at_ hr.drew.f0.1)) ?_
        refine WH.back trivial ?_
        refine WH.step 10 rfl ?_
        refine WL.v (Val.toStr (l := s.l) Try.underlying25 Try.underlying9 Try.underlying5 rfl rfl (at_ hr.drew.ol.sl)) ?_
        refine WH.back trivial ?_
        refine WH.step 11 rfl ?_
        refine WL.build1 ty23 rfl rfl rfl ?_
        refine WH.back trivial ?_
        exact WH.join tail (by kernel_rfl) ⟨rfl, rfl, rfl, rfl, trivial⟩
      · refine WL.v (Val.toStr (l := s.l) Try.underlying25 Try.underlying9 Try.underlying5 rfl rfl (at_ hr.drew.ol.sl)) ?_
        refine WH.back trivial ?_
        refine WH.step2 5 11 rfl rfl (by kernel_rfl) ?_ ?_
        · refine WL.v (Val.load rfl pl23 rfl (at_ hr.drew.f0.1)) ?_
          refine WH.back trivial ?_
          refine WH.step 11 rfl ?_
          refine WL.build1 ty23 rfl rfl rfl ?_
          refine WH.back trivial ?_
          exact WH.join tail (by kernel_rfl) ⟨rfl, rfl, rfl, rfl, trivial⟩
        · refine WL.build1 ty23 rfl rfl rfl ?_
          refine WH.back trivial ?_
          refine WH.step 5 rfl ?_
          refine WL.v (Val.load rfl pl23 rfl (at_ ((hr.drew.f0.grown (World.grownBy_alloc _ _ none) (by simp)).1))) ?_
          refine WH.back trivial ?_
          exact WH.join tail (by kernel_rfl) ⟨rfl, rfl, rfl, rfl, trivial⟩
  have hlt := hr.lt
  refine WH.step 12 rfl ?_
  refine WL.apN (mkS s.l) hr.drew.on rfl rfl rfl (by have := hs.2.1; omega) (by show g + 1 ≤ w.heap.size; omega) (fun v2 w2 hown2 hg2 _ => ?_)
  refine WH.back trivial ?_
  refine WH.take 13 rfl rfl (Val.nilCheck rfl rfl) ?_
  refine WH.take 14 rfl rfl (Val.fieldAddr ⟨g, 0, none⟩ rfl rfl (fun _ => by kernel_rfl)) ?_
  refine WH.step 15 rfl ?_
  have hv2 : v2.cells = #[v2] ∧ v2.oneCell' = true := own_cells hown2
  have hf2 := own_fld hr.drew.f0 hr.drew.on hg2
  have hr3 := hr.drew.putN hown2 hg2
  refine WL.store1 rfl sz23 rfl rfl hv2.1 hv2.2 hf2.1 hf2.2 ?_
  refine WH.back trivial ?_
  refine WH.take 16 rfl rfl (Val.nilCheck rfl rfl) ?_
  refine WH.take 17 rfl rfl (Val.fieldAddr ⟨g, 1, none⟩ rfl rfl (fun _ => by kernel_rfl)) ?_
  refine WH.step 18 rfl ?_
  refine WL.store1 rfl sz25 rfl rfl rfl rfl hr3.f1.1 hr3.f1.2 ?_
  refine WH.back trivial ?_
  refine WH.done ?_
  refine Ends.end0 rfl ⟨rfl, ⟨_, _, _, hr3.clearL⟩, ?_⟩
  exact (((Bc.drew g w).trans (Bc.grow hr.drew.on hlt hg2)).trans (Bc.set g 0 _ _)).trans (Bc.set g 1 _ _)
end Go.Proofs.Ytjdgckamjgldmaa
