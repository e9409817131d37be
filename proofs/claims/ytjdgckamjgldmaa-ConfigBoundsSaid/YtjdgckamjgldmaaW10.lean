/- Walks: what is caught; reading bytes. -/
import Derived.Test.YtjdgckamjgldmaaBase
import Derived.Test.YtjdgckamjgldmaaEngB
import Derived.Test.YtjdgckamjgldmaaW3
import Derived.Test.YtjdgckamjgldmaaW4
namespace Go.Proofs.Ytjdgckamjgldmaa
open Go.RowKit Go.Eng

theorem bodied56 : Bodied Try.prog 56 := bodied Try.func56 rfl rfl
theorem bodied52 : Bodied Try.prog 52 := bodied Try.func52 rfl rfl
theorem bodied59 : Bodied Try.prog 59 := bodied Try.func59 rfl rfl
theorem bodied63 : Bodied Try.prog 63 := bodied Try.func63 rfl rfl
theorem bodied28 : Bodied Try.prog 28 := bodied Try.func28 rfl rfl
theorem sz23 : ∀ w, (sizeOf 23).run Try.prog w = .ok 1 w := fun _ => by kernel_rfl
theorem sz3 : ∀ w, (sizeOf 3).run Try.prog w = .ok 1 w := fun _ => by kernel_rfl
theorem sz31 : ∀ w, (sizeOf 31).run Try.prog w = .ok 1 w := fun _ => by kernel_rfl
theorem sz86 : ∀ w, (sizeOf 86).run Try.prog w = .ok 1 w := fun _ => by kernel_rfl
theorem pl23 : ∀ w, (isAgg 23).run Try.prog w = .ok false w := fun _ => by kernel_rfl
theorem pl3 : ∀ w, (isAgg 3).run Try.prog w = .ok false w := fun _ => by kernel_rfl
theorem pl31 : ∀ w, (isAgg 31).run Try.prog w = .ok false w := fun _ => by kernel_rfl
/-- What 'fail' panics with. -/
def Failed (c : Int) : List PanicEntry := [{ v := .iface 86 (.agg #[.int .i64 c]), recovered := false }]
-- signet/name.fail
theorem fail56 (c : Int) (w : World) : Panics Try.prog 56 #[.int .i64 c] w (Failed c) (w = ·) := by
  refine enter (N := 5) (args := [_]) Try.func56 rfl rfl (Nat.le_of_ble_eq_true rfl) ?_
  refine CW.region ?_
  refine WL.v (Val.move rfl rfl) ?_ -- d2
  refine WL.v (v := .agg #[.int .i64 c]) (Val.of (fun ρ hρ w => ?_)) ?_
  · have h := hρ (.tmp 2) _ rfl
    simp only [execOp, List.map_toArray, List.map_cons, List.map_nil, h]
    show _ = _
    kernel_rfl
  refine WL.v (Val.makeIface rfl Try.underlying86 (by intro ms hh; cases hh) rfl) ?_
  refine WL.panic rfl rfl ?_
  exact Ends.panicEnd ⟨rfl, rfl⟩
-- signet/name.caught$1
theorem catch63 (A B C : Nat) (c : Int) (older : List PanicEntry) (a b d : Value) (w : World) (ha : Box w A a) (hb : Box w B b) (hd : Box w C d) (hab : A ≠ B) (hac : A ≠ C) (hbc : B ≠ C) (base : Nat) (h0 : base ≤ A) (h1 : base ≤ B) (h2 : base ≤ C) :
    CallsD Try.prog 63 #[.pointer (some ⟨A, 0, none⟩), .pointer (some ⟨B, 0, none⟩), .pointer (some ⟨C, 0, none⟩)] (.panicking ({ v := .iface 86 (.agg #[.int .i64 c]), recovered := false } :: older)) w fun ex u' w' =>
      (∃ v, ex = .returned v) ∧ u' = .panicking ({ v := .iface 86 (.agg #[.int .i64 c]), recovered := true } :: older) ∧ (Box w' A (.slice none 0 0) ∧ Box w' B (.int .i64 0) ∧ Box w' C (.int .i64 c) ∧ Below base w w') := by
  have hA := ha.lt
  have hB := hb.lt
  have hC := hd.lt
  refine enterRecover (N := 19) (args := [_, _, _]) Try.func63 rfl rfl (Nat.le_of_ble_eq_true rfl) rfl rfl rfl rfl rfl rfl (by decide) (by decide) ?_
  refine CW.seq ?_
  refine CW.region ?_
  refine WL.v (Val.move rfl rfl) ?_ -- d7
  refine WL.v (v := .bool true) (Val.bin rfl rfl rfl (fun w => by kernel_rfl)) ?_
  refine WL.nil ?_
  refine Ends.next ?_
  refine CW.condT rfl (rfl) ?_
  refine CW.seq ?_
  refine CW.region ?_
  refine WL.v (Val.move rfl rfl) ?_ -- d10
  refine WL.v (v := .tuple #[.agg #[.int .i64 c], .bool true]) (Val.of (fun ρ hρ w => ?_)) ?_
  · have h := hρ (.tmp 10) _ rfl
    simp only [execOp, h]
    show _ = _
    kernel_rfl
  refine WL.v (Val.move rfl rfl) ?_ -- d9
  refine WL.v (Val.extract rfl rfl rfl) ?_ -- d12
  refine WL.v (Val.extract rfl rfl rfl) ?_ -- d13
  refine WL.alloc (z := .agg #[.int .i64 0]) rfl (fun _ => by kernel_rfl) ?_
  have hF := Box.new w (.int .i64 0) 86
  have ha1 := ha.alloc (.cells #[.int .i64 0] 86)
  have hb1 := hb.alloc (.cells #[.int .i64 0] 86)
  have hd1 := hd.alloc (.cells #[.int .i64 0] 86)
  refine WL.storeB hF sz86 rfl rfl rfl rfl rfl (fun hF2 => ?_)
  refine WL.v (Val.assign rfl rfl) ?_ -- d5
  refine WL.nil ?_
  refine Ends.next ?_
  refine CW.seq ?_
  refine CW.seq ?_
  refine CW.region ?_
  refine WL.v (Val.move rfl rfl) ?_ -- d14
  refine WL.v (Val.not rfl rfl) ?_ -- d15
  refine WL.nil ?_
  refine Ends.next ?_
  refine CW.condF rfl (rfl) ?_
  refine CW.skip ?_
  refine Ends.next ?_
  refine CW.draw (fun w' => Box w' w.heap.size (.int .i64 c)) hF2.drew ?_
  have ha2 := (ha1.far (p := ⟨w.heap.size, 0, none⟩) (by simp; omega) (.int .i64 c)).drew
  have hb2 := (hb1.far (p := ⟨w.heap.size, 0, none⟩) (by simp; omega) (.int .i64 c)).drew
  have hd2 := (hd1.far (p := ⟨w.heap.size, 0, none⟩) (by simp; omega) (.int .i64 c)).drew
  refine WH.take 0 rfl rfl (Val.fieldAddr ⟨w.heap.size, 0, none⟩ rfl rfl (fun _ => by kernel_rfl)) ?_ -- d17
  refine WH.take 1 rfl rfl (Val.load rfl pl31 rfl (fun _ hS => hS.1)) ?_ -- d18
  refine WH.step 2 rfl ?_ -- n5.2
  refine WL.storeB ha2 sz23 rfl rfl rfl rfl rfl (fun ha3 => ?_)
  have hb3 := hb2.far (p := ⟨A, 0, none⟩) (Ne.symm hab) (.slice none 0 0)
  have hd3 := hd2.far (p := ⟨A, 0, none⟩) (Ne.symm hac) (.slice none 0 0)
  have hF3 := hF2.drew.far (p := ⟨A, 0, none⟩) (by simp; omega) (.slice none 0 0)
  refine WH.back hF3 ?_
  refine WH.step 3 rfl ?_ -- n5.3
  refine WL.storeB hb3 sz3 rfl rfl rfl rfl rfl (fun hb4 => ?_)
  have ha4 := ha3.far (p := ⟨B, 0, none⟩) hab (.int .i64 0)
  have hd4 := hd3.far (p := ⟨B, 0, none⟩) (Ne.symm hbc) (.int .i64 0)
  have hF4 := hF3.far (p := ⟨B, 0, none⟩) (by simp; omega) (.int .i64 0)
  refine WH.back hF4 ?_
  refine WH.step 4 rfl ?_ -- n5.4
  refine WL.storeB hd4 sz31 rfl rfl rfl rfl rfl (fun hd5 => ?_)
  have ha5 := ha4.far (p := ⟨C, 0, none⟩) hac (.int .i64 c)
  have hb5 := hb4.far (p := ⟨C, 0, none⟩) hbc (.int .i64 c)
  have hF5 := hF4.far (p := ⟨C, 0, none⟩) (by simp; omega) (.int .i64 c)
  refine WH.back hF5 ?_
  refine WH.done ?_
  refine Ends.dEnd rfl ⟨⟨_, rfl⟩, rfl, ha5, hb5, hd5, ?_⟩
  exact (((((((Below.refl _ _).alloc (by omega) _).setCell (by simp; omega) _).drew).setCell (by exact h0) _).setCell (by exact h1) _).setCell (by exact h2) _)
-- signet/name.caught$1
theorem idle63 (args : List Value) (hl : args.length ≤ 19) (w : World) :
    CallsD Try.prog 63 args.toArray .returning w fun ex u' w' => (∃ v, ex = .returned v) ∧ u' = .returning ∧ w = w' := by
  refine enterIdle (N := 19) (args := args) Try.func63 rfl rfl hl rfl rfl rfl rfl rfl rfl (by decide) (by decide) ?_
  refine CW.seq ?_
  refine CW.region ?_
  refine WL.v (Val.move rfl rfl) ?_ -- d7
  refine WL.v (v := .bool false) (Val.bin rfl rfl rfl (fun w => by kernel_rfl)) ?_
  refine WL.nil ?_
  refine Ends.next ?_
  refine CW.condF rfl (rfl) ?_
  refine CW.skip ?_
  exact Ends.dEnd rfl ⟨⟨_, rfl⟩, rfl, rfl⟩
/-- What a reading closure hands on: a name and a number, or the panic of 'fail'. -/
def Gives (F : FuncId) (caps : Array Value) (res : Option (List ByteArray × Int)) (w : World) : Prop :=
  match res with
    | some (n, k) => Runs Try.prog F caps w fun r w' => ∃ nv, r = .tuple #[nv, .int .i64 k] ∧ Nm w' nv n ∧ Below w.heap.size w w'
    | none => Panics Try.prog F caps w (Failed 30) (fun w' => Below w.heap.size w w')
theorem nm_set {w : World} {g : Nat} {u v q : Value} {l : List ByteArray} (h : Nm w v l) (hB : Box w g u) (hu : ∀ s, u ≠ sv s) : Nm (w.setCell ⟨g, 0, none⟩ q) v l :=
  Sl.setBox h hB (by intro x hx; simp at hx; obtain ⟨s, _, rfl⟩ := hx; exact hu s)
def caughtS : Option (List ByteArray × Int) → List ByteArray × Int × Int
  | none => ([], 0, 30)
  | some (n, k) => if checkN n = 0 then (n, k, 0) else ([], 0, checkN n)
-- signet/name.caught
theorem caught52p (F : FuncId) (hBF : Bodied Try.prog F) (caps : Array Value) (w : World) (hF : ∀ w', Below w.heap.size w w' → Gives F caps (none) w') :
    Runs Try.prog 52 #[.func (.func F) #[] caps] w fun r w' => ∃ nv, r = .tuple #[nv, .int .i64 (caughtS (none)).2.1, .int .i64 (caughtS (none)).2.2] ∧ Nm w' nv (caughtS (none)).1 ∧ Below w.heap.size w w' := by
  refine enterD (N := 20) (args := [_]) Try.func52 rfl rfl (Nat.le_of_ble_eq_true rfl) ?_
  refine CW.seq ?_
  refine CW.region ?_
  refine WL.allocB (z := .slice none 0 0) rfl (fun _ => by kernel_rfl) rfl (fun g0 w1 x0 hg0 hb1 hs1 => ?_)
  refine WL.allocB (z := .int .i64 0) rfl (fun _ => by kernel_rfl) rfl (fun g1 w2 x1 hg1 hb2 hs2 => ?_)
  have x0b := x0.below hb2 (by omega)
  refine WL.allocB (z := .int .i64 0) rfl (fun _ => by kernel_rfl) rfl (fun g2 w3 x2 hg2 hb3 hs3 => ?_)
  have x0c := x0b.below hb3 (by omega)
  have x1c := x1.below hb3 (by omega)
  have hbw3 : Below w.heap.size w w3 := (hb1.trans (hb2.mono (by omega))).trans (hb3.mono (by omega))
  refine WL.nil ?_
  refine Ends.next ?_
  refine CW.seq ?_
  refine CW.region ?_
  refine WL.v (Val.makeFunc (l := [.tmp 2, .tmp 3, .tmp 4]) rfl rfl) ?_
  refine WL.defer rfl rfl ?_
  refine WL.nil ?_
  refine Ends.next ?_
  refine CW.seq ?_
  refine CW.region ?_
  refine WL.v (Val.move rfl rfl) ?_ -- d8
  refine WL.callVp hBF rfl rfl (hF w3 hbw3) (fun w4 hb4 => ?_)
  have x0d := x0c.below hb4 (by omega)
  have x1d := x1c.below hb4 (by omega)
  have x2d := x2.below hb4 (by omega)
  refine Ends.seqp ?_
  refine Ends.doorPanic ?_
  refine Door.cons (by simp) bodied63 (catch63 g0 g1 g2 30 [] _ _ _ _ x0d x1d x2d (by omega) (by omega) (by omega) w.heap.size (by omega) (by omega) (by omega)) ?_
  rintro w9 ⟨y0, y1, y2, hb9⟩
  exact Door.nilRet (fun tmps ht => results_cells3 rfl pl23 pl3 pl31 rfl rfl rfl y0.1 y1.1 y2.1 tmps ht) ⟨_, rfl, by exact Sl.nil _ _, (hbw3.trans (hb4.mono (by omega))).trans hb9⟩
-- signet/name.caught
theorem caught52r (F : FuncId) (hBF : Bodied Try.prog F) (caps : Array Value) (n : List ByteArray) (k : Int) (hn : n.length ≤ 1000000000000000) (w : World) (hF : ∀ w', Below w.heap.size w w' → Gives F caps (some (n, k)) w') :
    Runs Try.prog 52 #[.func (.func F) #[] caps] w fun r w' => ∃ nv, r = .tuple #[nv, .int .i64 (caughtS (some (n, k))).2.1, .int .i64 (caughtS (some (n, k))).2.2] ∧ Nm w' nv (caughtS (some (n, k))).1 ∧ Below w.heap.size w w' := by
  refine enterD (N := 20) (args := [_]) Try.func52 rfl rfl (Nat.le_of_ble_eq_true rfl) ?_
  refine CW.seq ?_
  refine CW.region ?_
  refine WL.allocB (z := .slice none 0 0) rfl (fun _ => by kernel_rfl) rfl (fun g0 w1 x0 hg0 hb1 hs1 => ?_)
  refine WL.allocB (z := .int .i64 0) rfl (fun _ => by kernel_rfl) rfl (fun g1 w2 x1 hg1 hb2 hs2 => ?_)
  have x0b := x0.below hb2 (by omega)
  refine WL.allocB (z := .int .i64 0) rfl (fun _ => by kernel_rfl) rfl (fun g2 w3 x2 hg2 hb3 hs3 => ?_)
  have x0c := x0b.below hb3 (by omega)
  have x1c := x1.below hb3 (by omega)
  have hbw3 : Below w.heap.size w w3 := (hb1.trans (hb2.mono (by omega))).trans (hb3.mono (by omega))
  refine WL.nil ?_
  refine Ends.next ?_
  refine CW.seq ?_
  refine CW.region ?_
  refine WL.v (Val.makeFunc (l := [.tmp 2, .tmp 3, .tmp 4]) rfl rfl) ?_
  refine WL.defer rfl rfl ?_
  refine WL.nil ?_
  refine Ends.next ?_
  refine CW.seq ?_
  refine CW.region ?_
  refine WL.v (Val.move rfl rfl) ?_ -- d8
  refine WL.callVr hBF rfl rfl (hF w3 hbw3) ?_
  rintro _ w4 ⟨nv, rfl, hnv, hb4⟩
  have x0d := x0c.below hb4 (by omega)
  have x1d := x1c.below hb4 (by omega)
  have x2d := x2.below hb4 (by omega)
  obtain ⟨A, c, hv, -⟩ := id hnv
  rw [List.length_map] at hv
  subst hv
  have hsz4 := hb4.size
  have hbw4 : Below w.heap.size w w4 := hbw3.trans (hb4.mono (by omega))
  refine WL.v (Val.move rfl rfl) ?_ -- d7
  refine WL.v (Val.extract rfl rfl rfl) ?_ -- d10
  refine WL.v (Val.extract rfl rfl rfl) ?_ -- d11
  refine WL.storeB x0d sz23 rfl rfl rfl rfl rfl (fun x0e => ?_)
  have x1e := x1d.far (p := ⟨g0, 0, none⟩) (by simp; omega) (.slice A n.length c)
  have x2e := x2d.far (p := ⟨g0, 0, none⟩) (by simp; omega) (.slice A n.length c)
  have hbe := hbw4.setCell (p := ⟨g0, 0, none⟩) (by simp; omega) (.slice A n.length c)
  refine WL.storeB x1e sz3 rfl rfl rfl rfl rfl (fun x1f => ?_)
  have x0f := x0e.far (p := ⟨g1, 0, none⟩) (by simp; omega) (.int .i64 k)
  have x2f := x2e.far (p := ⟨g1, 0, none⟩) (by simp; omega) (.int .i64 k)
  have hbf := hbe.setCell (p := ⟨g1, 0, none⟩) (by simp; omega) (.int .i64 k)
  have hnf : Nm ((w4.setCell ⟨g0, 0, none⟩ (.slice A n.length c)).setCell ⟨g1, 0, none⟩ (.int .i64 k)) (.slice A n.length c) n := nm_set (nm_set hnv x0d (by intro s hh; cases hh)) x1e (by intro s hh; cases hh)
  generalize (w4.setCell ⟨g0, 0, none⟩ (.slice A n.length c)).setCell ⟨g1, 0, none⟩ (.int .i64 k) = w5 at *
  refine WL.nil ?_
  refine Ends.next ?_
  refine CW.seq ?_
  refine CW.seq ?_
  refine CW.region ?_
  refine WL.v (Val.load rfl pl23 rfl (at_ x0f.1)) ?_
  refine WL.call bodied38 rfl rfl (check38 _ n _ hnf hn) ?_
  rintro _ _ ⟨rfl, rfl⟩
  refine WL.v (Val.assign rfl rfl) ?_ -- d5
  refine WL.nil ?_
  refine Ends.next ?_
  refine CW.seq ?_
  refine CW.region ?_
  refine WL.v (Val.move rfl rfl) ?_ -- d14
  refine WL.v (Val.neqI rfl rfl rfl) ?_ -- d15
  refine WL.nil ?_
  refine Ends.next ?_
  refine CW.condD rfl (fun hc0 => ?_) (fun hc0 => ?_)
  · -- yes
    refine CW.region ?_
    refine WL.v (Val.move rfl rfl) ?_ -- d16
    refine WL.callP bodied56 rfl rfl (fail56 _ _) ?_
    rintro _ rfl
    refine Ends.seqp ?_
    refine Ends.doorPanic ?_
    refine Door.cons (by simp) bodied63 (catch63 g0 g1 g2 (checkN n) [] _ _ _ _ x0f x1f x2f (by omega) (by omega) (by omega) w.heap.size (by omega) (by omega) (by omega)) ?_
    rintro w9 ⟨y0, y1, y2, hb9⟩
    exact Door.nilRet (fun tmps ht => results_cells3 rfl pl23 pl3 pl31 rfl rfl rfl y0.1 y1.1 y2.1 tmps ht) ⟨_, by simp only [caughtS]; rw [if_neg hc0], by simp only [caughtS]; rw [if_neg hc0]; exact Sl.nil _ _, hbf.trans hb9⟩
  · -- no
    have hz : checkN n = 0 := Decidable.not_not.1 hc0
    refine CW.skip ?_
    refine Ends.next ?_
    refine CW.seq ?_
    refine CW.draw (fun w' => Box w' g0 (.slice A n.length c) ∧ Box w' g1 (.int .i64 k)) ⟨x0f.drew, x1f.drew⟩ ?_
    refine WH.take 0 rfl rfl (Val.load rfl pl23 rfl (fun _ hS => hS.1.1)) ?_ -- d18
    refine WH.take 1 rfl rfl (Val.load rfl pl3 rfl (fun _ hS => hS.2.1)) ?_ -- d19
    refine WH.step 2 rfl ?_ -- n6.2
    refine WL.storeB x0f.drew sz23 rfl rfl rfl rfl rfl (fun x0g => ?_)
    have x1g := x1f.drew.far (p := ⟨g0, 0, none⟩) (by simp; omega) (.slice A n.length c)
    have x2g := x2f.drew.far (p := ⟨g0, 0, none⟩) (by simp; omega) (.slice A n.length c)
    have hbg := hbf.drew.setCell (p := ⟨g0, 0, none⟩) (by simp; omega) (.slice A n.length c)
    have hng : Nm (w5.drew.setCell ⟨g0, 0, none⟩ (.slice A n.length c)) (.slice A n.length c) n := nm_set (w := w5.drew) hnf x0f.drew (by intro s hh; cases hh)
    refine WH.back ⟨x0g, x1g⟩ ?_
    refine WH.step 3 rfl ?_ -- n6.3
    refine WL.storeB x1g sz3 rfl rfl rfl rfl rfl (fun x1h => ?_)
    have x0h := x0g.far (p := ⟨g1, 0, none⟩) (by simp; omega) (.int .i64 k)
    have x2h := x2g.far (p := ⟨g1, 0, none⟩) (by simp; omega) (.int .i64 k)
    have hbh := hbg.setCell (p := ⟨g1, 0, none⟩) (by simp; omega) (.int .i64 k)
    have hnh := nm_set (q := .int .i64 k) hng x1g (by intro s hh; cases hh)
    refine WH.back ⟨x0h, x1h⟩ ?_
    refine WH.step 4 rfl ?_ -- n6.4
    refine WL.storeB x2h sz31 rfl rfl rfl rfl rfl (fun x2i => ?_)
    have x0i := x0h.far (p := ⟨g2, 0, none⟩) (by simp; omega) (.int .i64 0)
    have x1i := x1h.far (p := ⟨g2, 0, none⟩) (by simp; omega) (.int .i64 0)
    have hbi := hbh.setCell (p := ⟨g2, 0, none⟩) (by simp; omega) (.int .i64 0)
    have hni := nm_set (q := .int .i64 0) hnh x2h (by intro s hh; cases hh)
    refine WH.back ⟨x0i, x1i⟩ ?_
    refine WH.done ?_
    refine Ends.next ?_
    refine CW.ret ?_
    refine Ends.doorRet ?_
    refine Door.cons (by simp) bodied63 (idle63 [_, _, _] (Nat.le_of_ble_eq_true rfl) _) ?_
    rintro _ rfl
    exact Door.nilRet (fun tmps ht => results_cells3 rfl pl23 pl3 pl31 rfl rfl rfl x0i.1 x1i.1 x2i.1 tmps ht) ⟨_, by simp only [caughtS]; rw [if_pos hz], by simp only [caughtS]; rw [if_pos hz]; exact hni, hbi⟩
end Go.Proofs.Ytjdgckamjgldmaa
