/- Walks: settings held against one another; settings of few numbers. -/
import Derived.Test.YtjdgckamjgldmaaW28
namespace Go.Proofs.Ytjdgckamjgldmaa
open Go.RowKit Go.Eng

/-- Settings held against one another. -/
def sameC (c d : Cf) : Bool := decide (c.apex = d.apex) && decide ((c.kt : Int) = (d.kt : Int)) && decide ((c.pr : Int) = (d.pr : Int)) && decide ((c.dt : Int) = (d.dt : Int)) && decide ((c.dp : Int) = (d.dp : Int)) && decide ((c.va : Int) = (d.va : Int)) && decide ((c.le : Int) = (d.le : Int)) && decide ((c.ga : Int) = (d.ga : Int)) && decide ((c.mt : Int) = (d.mt : Int)) && decide (c.salt = d.salt) && decide ((c.it : Int) = (d.it : Int)) && decide (c.h = d.h) && decide ((c.sz : Int) = (d.sz : Int))
theorem sameC_self (c : Cf) : sameC c c = true := by simp [sameC]
-- signet/signethelp.Config
theorem same22 (v va vs v' va' vs' : Value) (c c' : Cf) (w : World) (h : CfV w v va vs c) (h' : CfV w v' va' vs' c') (hl : c.apex.length ≤ 1000000000000000) : Runs Try.prog 22 #[v, v'] w fun r w' => r = .bool (sameC c c') ∧ Below w.heap.size w w' := by
  obtain ⟨rfl, ha, hs, hok⟩ := h
  obtain ⟨Aa, ca, hva, -⟩ := id ha
  rw [List.length_map] at hva
  subst hva
  obtain ⟨As, cs, hvs, -⟩ := id hs
  rw [List.length_map] at hvs
  subst hvs
  obtain ⟨rfl, ha', hs', hok'⟩ := h'
  obtain ⟨Aa', ca', hva', -⟩ := id ha'
  rw [List.length_map] at hva'
  subst hva'
  obtain ⟨As', cs', hvs', -⟩ := id hs'
  rw [List.length_map] at hvs'
  subst hvs'
  refine enter (N := 94) (args := [_, _]) Try.func22 rfl rfl (Nat.le_of_ble_eq_true rfl) ?_
  refine CW.seq ?_
  refine CW.region ?_
  refine WL.boxS _ rfl rfl (cfL_cells _ _ c) (fun g w1 hB1 hg1 hb1 hz1 => ?_)
  refine WL.boxS _ rfl rfl (cfL_cells _ _ c') (fun g' w2 hB2' hg2 hb2 hz2 => ?_)
  have hB2 := hB1.keep hb2
  have hb12 := hb1.trans (hb2.mono hb1.size)
  have ha2 := ha.keep hb12
  have hs2 := hs.keep hb12
  have ha2' := ha'.keep hb12
  have hs2' := hs'.keep hb12
  refine WL.v (Val.assign rfl rfl) ?_ -- d4
  refine WL.nil ?_
  refine Ends.next ?_
  refine CW.seq ?_
  refine CW.region ?_
  refine WL.v (Val.fldA 0 rfl rfl (fun _ => by kernel_rfl)) ?_ -- d5
  refine WL.v (Val.loadF rfl rfl pl23 (at_ (by assumption)) rfl) ?_ -- d6
  refine WL.v (Val.fldA 0 rfl rfl (fun _ => by kernel_rfl)) ?_ -- d7
  refine WL.v (Val.loadF rfl rfl pl23 (at_ (by assumption)) rfl) ?_ -- d8
  refine WL.call bodied30 rfl rfl (name30 _ _ _ _ _ ha2 ha2' hl) ?_
  rintro _ w3 ⟨rfl, hb3⟩
  have hB3 := hB2.keep hb3
  have hB3' := hB2'.keep hb3
  have hs3 := hs2.keep hb3
  have hs3' := hs2'.keep hb3
  clear hB1 hB2 hB2'
  refine WL.v (Val.move rfl rfl) ?_ -- d10
  refine WL.and (j := 5) (seg := [_, _, _, _, _]) (r := decide ((c.kt : Int) = (c'.kt : Int))) rfl rfl rfl rfl (fun hb16 HK16 => ?hT1) ?_
  case hT1 =>
    refine WL.yes rfl rfl rfl hb16 ?_
    refine WL.v (Val.fldA 1 rfl rfl (fun _ => by kernel_rfl)) ?_ -- d11
    refine WL.yes rfl rfl rfl hb16 ?_
    refine WL.v (Val.loadF rfl rfl pl24 (at_ (by assumption)) rfl) ?_ -- d12
    refine WL.yes rfl rfl rfl hb16 ?_
    refine WL.v (Val.fldA 1 rfl rfl (fun _ => by kernel_rfl)) ?_ -- d13
    refine WL.yes rfl rfl rfl hb16 ?_
    refine WL.v (Val.loadF rfl rfl pl24 (at_ (by assumption)) rfl) ?_ -- d14
    refine WL.yes rfl rfl rfl hb16 ?_
    refine WL.v (Val.eqlI rfl rfl rfl) ?_ -- d15
    refine WL.v (Val.pickT rfl rfl hb16 rfl) ?_
    refine WL.forget rfl ?_; refine WL.forget rfl ?_; refine WL.forget rfl ?_; refine WL.forget rfl ?_; refine WL.forget rfl ?_
    exact HK16
  refine WL.v (Val.move rfl rfl) ?_ -- d17
  refine WL.and (j := 12) (seg := [_, _, _, _, _]) (r := decide ((c.pr : Int) = (c'.pr : Int))) rfl rfl rfl rfl (fun hb23 HK23 => ?hT2) ?_
  case hT2 =>
    refine WL.yes rfl rfl rfl hb23 ?_
    refine WL.v (Val.fldA 2 rfl rfl (fun _ => by kernel_rfl)) ?_ -- d18
    refine WL.yes rfl rfl rfl hb23 ?_
    refine WL.v (Val.loadF rfl rfl pl24 (at_ (by assumption)) rfl) ?_ -- d19
    refine WL.yes rfl rfl rfl hb23 ?_
    refine WL.v (Val.fldA 2 rfl rfl (fun _ => by kernel_rfl)) ?_ -- d20
    refine WL.yes rfl rfl rfl hb23 ?_
    refine WL.v (Val.loadF rfl rfl pl24 (at_ (by assumption)) rfl) ?_ -- d21
    refine WL.yes rfl rfl rfl hb23 ?_
    refine WL.v (Val.eqlI rfl rfl rfl) ?_ -- d22
    refine WL.v (Val.pickT rfl rfl hb23 rfl) ?_
    refine WL.forget rfl ?_; refine WL.forget rfl ?_; refine WL.forget rfl ?_; refine WL.forget rfl ?_; refine WL.forget rfl ?_
    exact HK23
  refine WL.v (Val.move rfl rfl) ?_ -- d24
  refine WL.and (j := 19) (seg := [_, _, _, _, _]) (r := decide ((c.dt : Int) = (c'.dt : Int))) rfl rfl rfl rfl (fun hb30 HK30 => ?hT3) ?_
  case hT3 =>
    refine WL.yes rfl rfl rfl hb30 ?_
    refine WL.v (Val.fldA 3 rfl rfl (fun _ => by kernel_rfl)) ?_ -- d25
    refine WL.yes rfl rfl rfl hb30 ?_
    refine WL.v (Val.loadF rfl rfl pl24 (at_ (by assumption)) rfl) ?_ -- d26
    refine WL.yes rfl rfl rfl hb30 ?_
    refine WL.v (Val.fldA 3 rfl rfl (fun _ => by kernel_rfl)) ?_ -- d27
    refine WL.yes rfl rfl rfl hb30 ?_
    refine WL.v (Val.loadF rfl rfl pl24 (at_ (by assumption)) rfl) ?_ -- d28
    refine WL.yes rfl rfl rfl hb30 ?_
    refine WL.v (Val.eqlI rfl rfl rfl) ?_ -- d29
    refine WL.v (Val.pickT rfl rfl hb30 rfl) ?_
    refine WL.forget rfl ?_; refine WL.forget rfl ?_; refine WL.forget rfl ?_; refine WL.forget rfl ?_; refine WL.forget rfl ?_
    exact HK30
  refine WL.v (Val.move rfl rfl) ?_ -- d31
  refine WL.and (j := 26) (seg := [_, _, _, _, _]) (r := decide ((c.dp : Int) = (c'.dp : Int))) rfl rfl rfl rfl (fun hb37 HK37 => ?hT4) ?_
  case hT4 =>
    refine WL.yes rfl rfl rfl hb37 ?_
    refine WL.v (Val.fldA 4 rfl rfl (fun _ => by kernel_rfl)) ?_ -- d32
    refine WL.yes rfl rfl rfl hb37 ?_
    refine WL.v (Val.loadF rfl rfl pl24 (at_ (by assumption)) rfl) ?_ -- d33
    refine WL.yes rfl rfl rfl hb37 ?_
    refine WL.v (Val.fldA 4 rfl rfl (fun _ => by kernel_rfl)) ?_ -- d34
    refine WL.yes rfl rfl rfl hb37 ?_
    refine WL.v (Val.loadF rfl rfl pl24 (at_ (by assumption)) rfl) ?_ -- d35
    refine WL.yes rfl rfl rfl hb37 ?_
    refine WL.v (Val.eqlI rfl rfl rfl) ?_ -- d36
    refine WL.v (Val.pickT rfl rfl hb37 rfl) ?_
    refine WL.forget rfl ?_; refine WL.forget rfl ?_; refine WL.forget rfl ?_; refine WL.forget rfl ?_; refine WL.forget rfl ?_
    exact HK37
  refine WL.v (Val.move rfl rfl) ?_ -- d38
  refine WL.and (j := 33) (seg := [_, _, _, _, _]) (r := decide ((c.va : Int) = (c'.va : Int))) rfl rfl rfl rfl (fun hb44 HK44 => ?hT5) ?_
  case hT5 =>
    refine WL.yes rfl rfl rfl hb44 ?_
    refine WL.v (Val.fldA 5 rfl rfl (fun _ => by kernel_rfl)) ?_ -- d39
    refine WL.yes rfl rfl rfl hb44 ?_
    refine WL.v (Val.loadF rfl rfl pl24 (at_ (by assumption)) rfl) ?_ -- d40
    refine WL.yes rfl rfl rfl hb44 ?_
    refine WL.v (Val.fldA 5 rfl rfl (fun _ => by kernel_rfl)) ?_ -- d41
    refine WL.yes rfl rfl rfl hb44 ?_
    refine WL.v (Val.loadF rfl rfl pl24 (at_ (by assumption)) rfl) ?_ -- d42
    refine WL.yes rfl rfl rfl hb44 ?_
    refine WL.v (Val.eqlI rfl rfl rfl) ?_ -- d43
    refine WL.v (Val.pickT rfl rfl hb44 rfl) ?_
    refine WL.forget rfl ?_; refine WL.forget rfl ?_; refine WL.forget rfl ?_; refine WL.forget rfl ?_; refine WL.forget rfl ?_
    exact HK44
  refine WL.v (Val.move rfl rfl) ?_ -- d45
  refine WL.and (j := 40) (seg := [_, _, _, _, _]) (r := decide ((c.le : Int) = (c'.le : Int))) rfl rfl rfl rfl (fun hb51 HK51 => ?hT6) ?_
  case hT6 =>
    refine WL.yes rfl rfl rfl hb51 ?_
    refine WL.v (Val.fldA 6 rfl rfl (fun _ => by kernel_rfl)) ?_ -- d46
    refine WL.yes rfl rfl rfl hb51 ?_
    refine WL.v (Val.loadF rfl rfl pl24 (at_ (by assumption)) rfl) ?_ -- d47
    refine WL.yes rfl rfl rfl hb51 ?_
    refine WL.v (Val.fldA 6 rfl rfl (fun _ => by kernel_rfl)) ?_ -- d48
    refine WL.yes rfl rfl rfl hb51 ?_
    refine WL.v (Val.loadF rfl rfl pl24 (at_ (by assumption)) rfl) ?_ -- d49
    refine WL.yes rfl rfl rfl hb51 ?_
    refine WL.v (Val.eqlI rfl rfl rfl) ?_ -- d50
    refine WL.v (Val.pickT rfl rfl hb51 rfl) ?_
    refine WL.forget rfl ?_; refine WL.forget rfl ?_; refine WL.forget rfl ?_; refine WL.forget rfl ?_; refine WL.forget rfl ?_
    exact HK51
  refine WL.v (Val.move rfl rfl) ?_ -- d52
  refine WL.and (j := 47) (seg := [_, _, _, _, _]) (r := decide ((c.ga : Int) = (c'.ga : Int))) rfl rfl rfl rfl (fun hb58 HK58 => ?hT7) ?_
  case hT7 =>
    refine WL.yes rfl rfl rfl hb58 ?_
    refine WL.v (Val.fldA 7 rfl rfl (fun _ => by kernel_rfl)) ?_ -- d53
    refine WL.yes rfl rfl rfl hb58 ?_
    refine WL.v (Val.loadF rfl rfl pl24 (at_ (by assumption)) rfl) ?_ -- d54
    refine WL.yes rfl rfl rfl hb58 ?_
    refine WL.v (Val.fldA 7 rfl rfl (fun _ => by kernel_rfl)) ?_ -- d55
    refine WL.yes rfl rfl rfl hb58 ?_
    refine WL.v (Val.loadF rfl rfl pl24 (at_ (by assumption)) rfl) ?_ -- d56
    refine WL.yes rfl rfl rfl hb58 ?_
    refine WL.v (Val.eqlI rfl rfl rfl) ?_ -- d57
    refine WL.v (Val.pickT rfl rfl hb58 rfl) ?_
    refine WL.forget rfl ?_; refine WL.forget rfl ?_; refine WL.forget rfl ?_; refine WL.forget rfl ?_; refine WL.forget rfl ?_
    exact HK58
  refine WL.v (Val.move rfl rfl) ?_ -- d59
  refine WL.and (j := 54) (seg := [_, _, _, _, _]) (r := decide ((c.mt : Int) = (c'.mt : Int))) rfl rfl rfl rfl (fun hb65 HK65 => ?hT8) ?_
  case hT8 =>
    refine WL.yes rfl rfl rfl hb65 ?_
    refine WL.v (Val.fldA 8 rfl rfl (fun _ => by kernel_rfl)) ?_ -- d60
    refine WL.yes rfl rfl rfl hb65 ?_
    refine WL.v (Val.loadF rfl rfl pl24 (at_ (by assumption)) rfl) ?_ -- d61
    refine WL.yes rfl rfl rfl hb65 ?_
    refine WL.v (Val.fldA 8 rfl rfl (fun _ => by kernel_rfl)) ?_ -- d62
    refine WL.yes rfl rfl rfl hb65 ?_
    refine WL.v (Val.loadF rfl rfl pl24 (at_ (by assumption)) rfl) ?_ -- d63
    refine WL.yes rfl rfl rfl hb65 ?_
    refine WL.v (Val.eqlI rfl rfl rfl) ?_ -- d64
    refine WL.v (Val.pickT rfl rfl hb65 rfl) ?_
    refine WL.forget rfl ?_; refine WL.forget rfl ?_; refine WL.forget rfl ?_; refine WL.forget rfl ?_; refine WL.forget rfl ?_
    exact HK65
  refine WL.v (Val.move rfl rfl) ?_ -- d66
  refine WL.and (j := 61) (seg := [_, _, _, _, _]) (r := decide (c.salt = c'.salt)) rfl rfl rfl rfl (fun hb72 HK72 => ?hT9) ?_
  case hT9 =>
    refine WL.yes rfl rfl rfl hb72 ?_
    refine WL.v (Val.fldA 9 rfl rfl (fun _ => by kernel_rfl)) ?_ -- d67
    refine WL.yes rfl rfl rfl hb72 ?_
    refine WL.v (Val.loadF rfl rfl pl25 (at_ (by assumption)) rfl) ?_ -- d68
    refine WL.yes rfl rfl rfl hb72 ?_
    refine WL.v (Val.fldA 9 rfl rfl (fun _ => by kernel_rfl)) ?_ -- d69
    refine WL.yes rfl rfl rfl hb72 ?_
    refine WL.v (Val.loadF rfl rfl pl25 (at_ (by assumption)) rfl) ?_ -- d70
    refine WL.yes rfl rfl rfl hb72 ?_
    refine WL.call bodied19 rfl rfl (bytes19 _ _ _ _ _ hs3 hs3') ?_
    rintro _ _ ⟨rfl, rfl⟩
    refine WL.v (Val.pickT rfl rfl hb72 rfl) ?_
    refine WL.forget rfl ?_; refine WL.forget rfl ?_; refine WL.forget rfl ?_; refine WL.forget rfl ?_; refine WL.forget rfl ?_
    exact HK72
  refine WL.v (Val.move rfl rfl) ?_ -- d73
  refine WL.and (j := 68) (seg := [_, _, _, _, _]) (r := decide ((c.it : Int) = (c'.it : Int))) rfl rfl rfl rfl (fun hb79 HK79 => ?hT10) ?_
  case hT10 =>
    refine WL.yes rfl rfl rfl hb79 ?_
    refine WL.v (Val.fldA 10 rfl rfl (fun _ => by kernel_rfl)) ?_ -- d74
    refine WL.yes rfl rfl rfl hb79 ?_
    refine WL.v (Val.loadF rfl rfl pl26 (at_ (by assumption)) rfl) ?_ -- d75
    refine WL.yes rfl rfl rfl hb79 ?_
    refine WL.v (Val.fldA 10 rfl rfl (fun _ => by kernel_rfl)) ?_ -- d76
    refine WL.yes rfl rfl rfl hb79 ?_
    refine WL.v (Val.loadF rfl rfl pl26 (at_ (by assumption)) rfl) ?_ -- d77
    refine WL.yes rfl rfl rfl hb79 ?_
    refine WL.v (Val.eqlI rfl rfl rfl) ?_ -- d78
    refine WL.v (Val.pickT rfl rfl hb79 rfl) ?_
    refine WL.forget rfl ?_; refine WL.forget rfl ?_; refine WL.forget rfl ?_; refine WL.forget rfl ?_; refine WL.forget rfl ?_
    exact HK79
  refine WL.v (Val.move rfl rfl) ?_ -- d80
  refine WL.and (j := 75) (seg := [_, _, _, _, _]) (r := decide (c.h = c'.h)) rfl rfl rfl rfl (fun hb86 HK86 => ?hT11) ?_
  case hT11 =>
    refine WL.yes rfl rfl rfl hb86 ?_
    refine WL.v (Val.fldA 11 rfl rfl (fun _ => by kernel_rfl)) ?_ -- d81
    refine WL.yes rfl rfl rfl hb86 ?_
    refine WL.v (Val.loadF rfl rfl pl3 (at_ (by assumption)) rfl) ?_ -- d82
    refine WL.yes rfl rfl rfl hb86 ?_
    refine WL.v (Val.fldA 11 rfl rfl (fun _ => by kernel_rfl)) ?_ -- d83
    refine WL.yes rfl rfl rfl hb86 ?_
    refine WL.v (Val.loadF rfl rfl pl3 (at_ (by assumption)) rfl) ?_ -- d84
    refine WL.yes rfl rfl rfl hb86 ?_
    refine WL.v (Val.eqlI rfl rfl rfl) ?_ -- d85
    refine WL.v (Val.pickT rfl rfl hb86 rfl) ?_
    refine WL.forget rfl ?_; refine WL.forget rfl ?_; refine WL.forget rfl ?_; refine WL.forget rfl ?_; refine WL.forget rfl ?_
    exact HK86
  refine WL.v (Val.move rfl rfl) ?_ -- d87
  refine WL.and (j := 82) (seg := [_, _, _, _, _]) (r := decide ((c.sz : Int) = (c'.sz : Int))) rfl rfl rfl rfl (fun hb93 HK93 => ?hT12) ?_
  case hT12 =>
    refine WL.yes rfl rfl rfl hb93 ?_
    refine WL.v (Val.fldA 12 rfl rfl (fun _ => by kernel_rfl)) ?_ -- d88
    refine WL.yes rfl rfl rfl hb93 ?_
    refine WL.v (Val.loadF rfl rfl pl26 (at_ (by assumption)) rfl) ?_ -- d89
    refine WL.yes rfl rfl rfl hb93 ?_
    refine WL.v (Val.fldA 12 rfl rfl (fun _ => by kernel_rfl)) ?_ -- d90
    refine WL.yes rfl rfl rfl hb93 ?_
    refine WL.v (Val.loadF rfl rfl pl26 (at_ (by assumption)) rfl) ?_ -- d91
    refine WL.yes rfl rfl rfl hb93 ?_
    refine WL.v (Val.eqlI rfl rfl rfl) ?_ -- d92
    refine WL.v (Val.pickT rfl rfl hb93 rfl) ?_
    refine WL.forget rfl ?_; refine WL.forget rfl ?_; refine WL.forget rfl ?_; refine WL.forget rfl ?_; refine WL.forget rfl ?_
    exact HK93
  refine WL.v (Val.assign rfl rfl) ?_ -- d4
  refine WL.nil ?_
  refine Ends.next ?_
  refine CW.ret ?_
  exact Ends.ret1 rfl rfl ⟨rfl, hb12.trans (hb3.mono hb12.size)⟩
theorem size28 (cs : List Value) (h : cs.length = 13) : (Try.prog.info? 28).map (·.size) = some cs.length := by
  rw [h]
  kernel_rfl
def zeroC : List Value := [.slice none 0 0, .int .u32 0, .int .u32 0, .int .u32 0, .int .u32 0, .int .u32 0, .int .u32 0, .int .u32 0, .int .u32 0, .slice none 0 0, .int .u16 0, .int .i64 0, .int .u16 0]
theorem zero28 : ∀ w, (zeroValue 28).run Try.prog w = .ok (.agg zeroC.toArray) w := fun _ => by kernel_rfl
theorem one25 : ∀ w, (sizeOf 25).run Try.prog w = .ok 1 w := fun _ => by kernel_rfl
theorem one26 : ∀ w, (sizeOf 26).run Try.prog w = .ok 1 w := fun _ => by kernel_rfl
theorem one24 : ∀ w, (sizeOf 24).run Try.prog w = .ok 1 w := fun _ => by kernel_rfl
theorem one3 : ∀ w, (sizeOf 3).run Try.prog w = .ok 1 w := fun _ => by kernel_rfl
def exName : List ByteArray := [⟨#[101, 120, 97, 109, 112, 108, 101]⟩]
/-- The settings of the number 5. -/
def cfg5 : Cf := { apex := exName, kt := 20, pr := 1, dt := 8, dp := 0, va := 300, le := 100, ga := 20, mt := 60, salt := [], it := 0, h := 6, sz := 1400 }
theorem cfg5_ok : cfg5.ok := by constructor <;> decide
theorem cfL_one (va vs : Value) (c : Cf) (ha : va.oneCell' = true) (hs : vs.oneCell' = true) : ∀ q ∈ cfL va vs c, q.oneCell' = true := by
  intro q hq
  simp only [cfL, List.mem_cons, List.not_mem_nil, or_false] at hq
  rcases hq with rfl | rfl | rfl | rfl | rfl | rfl | rfl | rfl | rfl | rfl | rfl | rfl | rfl <;> first | exact ha | exact hs | rfl
-- signet/signetseat.Config
theorem five23 (w : World) : Runs Try.prog 23 #[.int .u16 5] w fun r w' => ∃ va vs, CfV w' r va vs cfg5 ∧ Below w.heap.size w w' := by
  refine enter (N := 41) (args := [_]) Try.func23 rfl rfl (Nat.le_of_ble_eq_true rfl) ?_
  refine CW.seq ?_
  refine CW.region ?_
  refine WL.allocS zeroC rfl zero28 rfl (fun g2 w1 hB1 hg2 hb1 _ => ?_)
  refine WL.nil ?_
  refine Ends.next ?_
  refine CW.seq ?_
  refine CW.region ?_
  refine WL.call bodied51 rfl rfl (apex51 w1) ?_
  rintro _ w2 ⟨k2, rfl, hr2, hk2, hb2⟩
  have hB2 := hB1.keep hb2
  refine WL.v (Val.move rfl rfl) ?_ -- d5
  refine WL.v (Val.andN (a := 5) (b := 3) rfl rfl rfl rfl (by decide) (by decide) 1 rfl) ?_
  refine WL.v (Val.convI rfl Try.underlying26 Try.underlying24 rfl 1 (by decide)) ?_
  refine WL.v (Val.mul rfl rfl rfl 10 (by decide)) ?_
  refine WL.v (Val.add rfl rfl rfl 20 (by decide)) ?_
  refine WL.v (Val.move rfl rfl) ?_ -- d10
  refine WL.v (Val.shr rfl rfl rfl 1 (by decide)) ?_
  refine WL.v (Val.andN (a := 1) (b := 3) rfl rfl rfl rfl (by decide) (by decide) 1 rfl) ?_
  refine WL.v (Val.convI rfl Try.underlying26 Try.underlying24 rfl 1 (by decide)) ?_
  refine WL.v (Val.move rfl rfl) ?_ -- d14
  refine WL.v (Val.shr rfl rfl rfl 0 (by decide)) ?_
  refine WL.v (Val.andN (a := 0) (b := 3) rfl rfl rfl rfl (by decide) (by decide) 0 rfl) ?_
  refine WL.v (Val.convI rfl Try.underlying26 Try.underlying24 rfl 0 (by decide)) ?_
  refine WL.v (Val.move rfl rfl) ?_ -- d18
  refine WL.v (Val.shr rfl rfl rfl 0 (by decide)) ?_
  refine WL.v (Val.andN (a := 0) (b := 3) rfl rfl rfl rfl (by decide) (by decide) 0 rfl) ?_
  refine WL.v (Val.convI rfl Try.underlying26 Try.underlying24 rfl 0 (by decide)) ?_
  refine WL.v (Val.mul rfl rfl rfl 0 (by decide)) ?_
  refine WL.v (Val.add rfl rfl rfl 300 (by decide)) ?_
  refine WL.v (Val.move rfl rfl) ?_ -- d24
  refine WL.v (Val.shr rfl rfl rfl 0 (by decide)) ?_
  refine WL.v (Val.andN (a := 0) (b := 3) rfl rfl rfl rfl (by decide) (by decide) 0 rfl) ?_
  refine WL.v (Val.buildF (l := [(0, _), (1, _), (2, _), (3, _), (4, _), (8, _), (7, _), (6, _), (5, _), (10, _), (11, _), (12, _)]) (v := .agg (cfL (.slice (some ⟨k2, 0, none⟩) 1 1) (.slice none 0 0) { cfg5 with sz := 16000 }).toArray) rfl rfl (fun w => by kernel_rfl)) ?_
  refine WL.allocS zeroC rfl zero28 rfl (fun g3 w3 hB3 hg3 hb3 _ => ?_)
  have hB3' := hB2.keep hb3
  have hr3 := hr2.keep hb3
  refine WL.storeS (cs' := (cfL (.slice (some ⟨k2, 0, none⟩) 1 1) (.slice none 0 0) { cfg5 with sz := 16000 })) hB3 (size28 _ rfl) rfl rfl rfl rfl (cfL_one _ _ _ rfl rfl) (fun w4 hB4 hw4 => ?_)
  have hb4 : Below w2.heap.size w2 w4 := hw4 ▸ below_setRow hb3 (by omega) _
  refine WL.nil ?_
  refine Ends.next ?_
  refine CW.seq ?_
  refine CW.region ?_
  refine WL.buildX (l := [_, _, _]) (vs := [bv 170, bv 187, bv 204]) ty25 rfl rfl (by intro v hv; simp at hv; rcases hv with rfl | rfl | rfl <;> rfl) (by decide) (by decide) (fun g5 w5 hG5 hg5 hb5 _ => ?_)
  have hB5 := hB4.keep hb5
  refine WL.v (Val.move rfl rfl) ?_ -- d29
  refine WL.v (Val.shr rfl rfl rfl 0 (by decide)) ?_
  refine WL.v (Val.andN (a := 0) (b := 3) rfl rfl rfl rfl (by decide) (by decide) 0 rfl) ?_
  refine WL.v (Val.rem rfl rfl rfl (by decide) 0 (by decide)) ?_
  refine WL.v (Val.subSlHi (h := 0) rfl ty25 rfl rfl (by decide)) ?_
  refine WL.know 33 (.slice (some ⟨g5, 0, none⟩) 0 3) rfl rfl ?_
  refine WL.v (Val.fldA 9 rfl rfl (fun _ => by kernel_rfl)) ?_ -- d34
  refine WL.storeF (q := .slice (some ⟨g5, 0, none⟩) 0 3) hB5 (i := 9) rfl one25 rfl rfl rfl rfl rfl (fun w6 hB6 hw6 => ?_)
  have hbe4 := hb2.trans (hb4.mono hb2.size)
  have hbe5 := hbe4.trans (hb5.mono hbe4.size)
  have hbe6 : Below w1.heap.size w1 w6 := hw6 ▸ hbe5.setCell (by have := hb2.size; show _ ≤ g3; omega) _
  refine WL.nil ?_
  refine Ends.next ?_
  refine CW.seq ?_
  refine CW.seq ?_
  refine CW.region ?_
  refine WL.v (Val.move rfl rfl) ?_ -- d35
  refine WL.v (Val.shr rfl rfl rfl 0 (by decide)) ?_
  refine WL.v (Val.andN (a := 0) (b := 3) rfl rfl rfl rfl (by decide) (by decide) 0 rfl) ?_
  refine WL.v (Val.eqlI rfl rfl rfl) ?_ -- d38
  refine WL.nil ?_
  refine Ends.next ?_
  refine CW.condT rfl (rfl) ?_
  refine CW.region ?_
  refine WL.v (Val.fldA 12 rfl rfl (fun _ => by kernel_rfl)) ?_ -- d39
  refine WL.storeF (q := .int .u16 1400) hB6 (i := 12) rfl one26 rfl rfl rfl rfl rfl (fun w7 hB7 hw7 => ?_)
  have hbe7 : Below w1.heap.size w1 w7 := hw7 ▸ hbe6.setCell (by have := hb2.size; show _ ≤ g3; omega) _
  have hB7' : Blk w7 g2 28 zeroC := hB1.keep hbe7
  refine WL.nil ?_
  refine Ends.next ?_
  refine CW.seq ?_
  refine CW.region ?_
  refine WL.v (Val.loadS (cs := (cfL (.slice (some ⟨k2, 0, none⟩) 1 1) (.slice (some ⟨g5, 0, none⟩) 0 3) cfg5)) Try.underlying28 (size28 _ rfl) rfl rfl (at_ hB7)) ?_
  refine WL.storeS (cs' := (cfL (.slice (some ⟨k2, 0, none⟩) 1 1) (.slice (some ⟨g5, 0, none⟩) 0 3) cfg5)) hB7' (size28 _ rfl) rfl rfl rfl rfl (cfL_one _ _ _ rfl rfl) (fun w8 hB8 hw8 => ?_)
  have hbe8 : Below w.heap.size w w8 := hw8 ▸ below_setRow (hb1.trans (hbe7.mono hb1.size)) (by omega) _
  have hbn : Below w2.heap.size w2 w7 := hw7 ▸ (hw6 ▸ (hb4.trans (hb5.mono hb4.size)).setCell (by show _ ≤ g3; omega) _).setCell (by show _ ≤ g3; omega) _
  have hr8 : Blk w8 k2 9 _ := hw8 ▸ (hr2.keep hbn).rowOther (by omega) _
  refine WL.nil ?_
  refine Ends.next ?_
  refine CW.ret ?_
  exact Ends.retS Try.underlying28 (size28 _ rfl) hB8 rfl rfl ⟨_, _, ⟨rfl, (hr8.sl rfl : Sl w8 _ _), ⟨_, 3, rfl, Nat.zero_le _, fun h => absurd rfl h⟩, cfg5_ok⟩, hbe8⟩
end Go.Proofs.Ytjdgckamjgldmaa
