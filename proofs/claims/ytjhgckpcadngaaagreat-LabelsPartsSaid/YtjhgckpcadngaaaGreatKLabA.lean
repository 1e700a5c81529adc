/- Labels: slices.IndexFunc at labels and matchers, labels.Get, labels.matches, labels.Match. -/
import Derived.Test.YtjhgckpcadngaaaGreatPLAx0
import Derived.Test.YtjhgckpcadngaaaGreatPLAx1
import Derived.Test.YtjhgckpcadngaaaGreatPLAx2
import Derived.Test.YtjhgckpcadngaaaGreatPLAx3
import Derived.Test.YtjhgckpcadngaaaGreatKFlow3
import Derived.Test.YtjhgckpcadngaaaGreatKEv
import Derived.Test.YtjhgckpcadngaaaGreatKOpen
import Derived.Lib.SlBytesConst
import Derived.Lib.Bytes
import Derived.Deep.RegionWith
import Derived.Deep.QuietTactic
import Derived.Deep.RegionHeld3
import Derived.BigQuiet
namespace Go.Proofs.YtjhgckpcadngaaaGreatK
open Go.RowKit Go.Proofs.YtjhgckpcadngaaaGreatW.PrintWords Go.Proofs.YtjhgckpcadngaaaGreatW.PrintLast Go.Proofs.YtjhgckpcadngaaaGreatW.PrintMore
open Go.Proofs.YtjhgckpcadngaaaGreat.PLA Go.Proofs.YtjhgckpcadngaaaGreat
attribute [local go_sem] max2_int min2_int max_two min_two max_three min_three max_four min_four
set_option linter.unusedVariables false
set_option linter.unusedSimpArgs false
def firstI {α : Type} (p : α → Bool) (l : List α) : Int := match l.findIdx? p with | some i => (i : Int) | none => -1
theorem lab_get {w : World} {A : Option Addr} {n : Nat} {l : List S47} (h : Kd.C k47 w A n l) {i : Nat} (hi : i < l.length) : ∃ ad, A = some ad ∧ w.cell? (ad.add (i * 2)) = some (.string l[i].f0) ∧ w.cell? ⟨(ad.add (i * 2)).block, (ad.add (i * 2)).off + 1, none⟩ = some (.string l[i].f1) := by
  have hn := h.1
  obtain ⟨ad, hA, h1, h2⟩ := at_T47 h (i : Int) (by omega) (by omega)
  rw [Int.toNat_natCast] at h1 h2
  have e : rd_T47 l (i : Int) = l[i] := by simp [rd_T47, List.getD_eq_getElem?_getD, List.getElem?_eq_getElem hi]
  rw [e] at h1 h2
  exact ⟨ad, hA, h1, h2⟩
theorem mat_get {w : World} {A : Option Addr} {n : Nat} {l : List S35} (h : Kd.C k35 w A n l) {i : Nat} (hi : i < l.length) : ∃ ad, A = some ad ∧ w.cell? (ad.add (i * 3)) = some (.string l[i].f0) ∧ w.cell? ⟨(ad.add (i * 3)).block, (ad.add (i * 3)).off + 1, none⟩ = some (.string l[i].f1) ∧ w.cell? ⟨(ad.add (i * 3)).block, (ad.add (i * 3)).off + 2, none⟩ = some (.string l[i].f2) := by
  have hn := h.1
  obtain ⟨ad, hA, h1, h2, h3⟩ := at_T35 h (i : Int) (by omega) (by omega)
  rw [Int.toNat_natCast] at h1 h2 h3
  have e : rd_T35 l (i : Int) = l[i] := by simp [rd_T35, List.getD_eq_getElem?_getD, List.getElem?_eq_getElem hi]
  rw [e] at h1 h2 h3
  exact ⟨ad, hA, h1, h2, h3⟩
set_option maxHeartbeats 1000000 in
theorem indexL_calls (g : Nat) (lb : Array Value) (hgo : ∀ (args : Array Value) (W : World), (callFunc g args).run Tryz.prog W = .ok (.enter g args) W) (p : S47 → Bool) (A : Option Addr) (c : Nat) (l : List (S47)) (w : World) (hr : Kd.C k47 w A l.length l)
    (hp : ∀ (W : World) (x : S47), Below w.heap.size w W → Calls Tryz.prog g (#[.agg #[.string x.f0, .string x.f1]] ++ lb) W fun e w' => e = .returned (.bool (p x)) ∧ Below W.heap.size W w') :
    Calls Tryz.prog 51 #[.slice A l.length c, .func (.func g) #[] lb] w fun e w' => e = .returned (.int .i64 (firstI p l)) ∧ Below w.heap.size w w' := by
  have hlm : l.length ≤ 9223372036854775807 := hr.2.1
  have HR := Aside0.mk hr; have HP := Aside0.mk hp
  clear hr hp
  go_enter Tryz.func51, Tryz.ntmps51
  go_wp2
  go_loopw [8] (fun i wr => ∃ k : Nat, k ≤ l.length ∧ i = .int .i64 k ∧ Aside0 (∀ x ∈ l.take k, p x = false) ∧ Aside0 (Below w.heap.size w wr)) (fun i _ => l.length - (intOf i).toNat)
  case atStart => exact ⟨0, Nat.zero_le _, rfl, ⟨by simp⟩, ⟨Below.refl _ _⟩⟩
  case round =>
    obtain ⟨k, hk, rfl, HK, HB⟩ := hrel
    by_cases hlt : k < l.length
    · obtain ⟨ad, rfl, hc0, hc1⟩ := lab_get (Kd.C_below HR.out HB.out) hlt
      have HT : Aside0 (l.take (k + 1) = l.take k ++ [l[k]]) := ⟨List.take_succ_eq_append_getElem hlt⟩
      have HG : Aside0 (l[k]? = some l[k]) := ⟨List.getElem?_eq_getElem hlt⟩
      have HL : Aside0 ((l.take k).length = k) := ⟨by rw [List.length_take]; omega⟩
      obtain ⟨y, hy⟩ : ∃ y, y = l[k] := ⟨_, rfl⟩
      rw [← hy] at hc0 hc1 HT HG
      clear hy
      go_wp2_with fail
      refine (HP.out wr y HB.out).mono ?_
      rintro e w1 ⟨rfl, hb1⟩
      have HB1 := Aside0.mk (below_step HB.out hb1)
      clear hb1
      cases hpy : p y with
      | true =>
        have HPY := Aside0.mk hpy
        clear hpy
        go_wp2_with fail
        go_ret
        refine ⟨?_, HB1.out⟩
        have : l.findIdx? p = some k := by
          rw [List.findIdx?_eq_some_iff_getElem]
          refine ⟨hlt, by rw [List.getElem?_eq_getElem hlt] at HG; have := HG.out; simp only [Option.some.injEq] at this; rw [this]; exact HPY.out, fun j hj => ?_⟩
          have := HK.out (l[j]) (by rw [List.mem_take_iff_getElem]; exact ⟨j, by omega, rfl⟩)
          simp [this]
        simp only [firstI, this]
        rfl
      | false =>
        have HPY := Aside0.mk hpy
        clear hpy
        go_wp2_with fail
        go_roundw
        case rel => exact ⟨k + 1, by omega, by go_num, ⟨fun x hx => by
          rw [HT.out] at hx
          rcases List.mem_append.1 hx with h | h
          · exact HK.out x h
          · rw [List.mem_singleton.1 h]; exact HPY.out⟩, HB1⟩
        case measure => simp [intOf]; omega
    · obtain rfl : k = l.length := by omega
      go_wp2_with fail
      go_ret
      refine ⟨?_, HB.out⟩
      have h1 := HK.out
      rw [List.take_length] at h1
      have : l.findIdx? p = none := by rw [List.findIdx?_eq_none_iff]; exact h1
      simp only [firstI, this]
      rfl
set_option maxHeartbeats 1000000 in
theorem indexM_calls (g : Nat) (lb : Array Value) (hgo : ∀ (args : Array Value) (W : World), (callFunc g args).run Tryz.prog W = .ok (.enter g args) W) (p : S35 → Bool) (A : Option Addr) (c : Nat) (l : List (S35)) (w : World) (hr : Kd.C k35 w A l.length l)
    (hp : ∀ (W : World) (x : S35), Below w.heap.size w W → Calls Tryz.prog g (#[.agg #[.string x.f0, .string x.f1, .string x.f2]] ++ lb) W fun e w' => e = .returned (.bool (p x)) ∧ Below W.heap.size W w') :
    Calls Tryz.prog 63 #[.slice A l.length c, .func (.func g) #[] lb] w fun e w' => e = .returned (.int .i64 (firstI p l)) ∧ Below w.heap.size w w' := by
  have hlm : l.length ≤ 9223372036854775807 := hr.2.1
  have HR := Aside0.mk hr; have HP := Aside0.mk hp
  clear hr hp
  go_enter Tryz.func63, Tryz.ntmps63
  go_wp2
  go_loopw [8] (fun i wr => ∃ k : Nat, k ≤ l.length ∧ i = .int .i64 k ∧ Aside0 (∀ x ∈ l.take k, p x = false) ∧ Aside0 (Below w.heap.size w wr)) (fun i _ => l.length - (intOf i).toNat)
  case atStart => exact ⟨0, Nat.zero_le _, rfl, ⟨by simp⟩, ⟨Below.refl _ _⟩⟩
  case round =>
    obtain ⟨k, hk, rfl, HK, HB⟩ := hrel
    by_cases hlt : k < l.length
    · obtain ⟨ad, rfl, hc0, hc1, hc2⟩ := mat_get (Kd.C_below HR.out HB.out) hlt
      have HT : Aside0 (l.take (k + 1) = l.take k ++ [l[k]]) := ⟨List.take_succ_eq_append_getElem hlt⟩
      have HG : Aside0 (l[k]? = some l[k]) := ⟨List.getElem?_eq_getElem hlt⟩
      have HL : Aside0 ((l.take k).length = k) := ⟨by rw [List.length_take]; omega⟩
      obtain ⟨y, hy⟩ : ∃ y, y = l[k] := ⟨_, rfl⟩
      rw [← hy] at hc0 hc1 hc2 HT HG
      clear hy
      go_wp2_with fail
      refine (HP.out wr y HB.out).mono ?_
      rintro e w1 ⟨rfl, hb1⟩
      have HB1 := Aside0.mk (below_step HB.out hb1)
      clear hb1
      cases hpy : p y with
      | true =>
        have HPY := Aside0.mk hpy
        clear hpy
        go_wp2_with fail
        go_ret
        refine ⟨?_, HB1.out⟩
        have : l.findIdx? p = some k := by
          rw [List.findIdx?_eq_some_iff_getElem]
          refine ⟨hlt, by rw [List.getElem?_eq_getElem hlt] at HG; have := HG.out; simp only [Option.some.injEq] at this; rw [this]; exact HPY.out, fun j hj => ?_⟩
          have := HK.out (l[j]) (by rw [List.mem_take_iff_getElem]; exact ⟨j, by omega, rfl⟩)
          simp [this]
        simp only [firstI, this]
        rfl
      | false =>
        have HPY := Aside0.mk hpy
        clear hpy
        go_wp2_with fail
        go_roundw
        case rel => exact ⟨k + 1, by omega, by go_num, ⟨fun x hx => by
          rw [HT.out] at hx
          rcases List.mem_append.1 hx with h | h
          · exact HK.out x h
          · rw [List.mem_singleton.1 h]; exact HPY.out⟩, HB1⟩
        case measure => simp [intOf]; omega
    · obtain rfl : k = l.length := by omega
      go_wp2_with fail
      go_ret
      refine ⟨?_, HB.out⟩
      have h1 := HK.out
      rw [List.take_length] at h1
      have : l.findIdx? p = none := by rw [List.findIdx?_eq_none_iff]; exact h1
      simp only [firstI, this]
      rfl
theorem enters {P : Program} {f : FuncId} {fn : Func} {c : Code} (hf : P.funcs[f]? = some fn) (hname : (fn.name == "runtime.NumGoroutine") = false) (hb : fn.body = some c) : ∀ (args : Array Value) (W : World), (callFunc f args).run P W = .ok (.enter f args) W := by
  intro args w
  have h1 : fn.name ≠ "runtime.NumGoroutine" := by simpa using hname
  simp [callFunc, hf, h1, hb, mark]
def seq (a b : ByteArray) : Bool := a.toList == b.toList
set_option maxHeartbeats 400000 in
theorem get1_calls (x0 x1 nm : ByteArray) (B : Nat) (w : World) (hB : w.cell? ⟨B, 0, none⟩ = some (.string nm)) : Calls Tryz.prog 52 #[.agg #[.string x0, .string x1], .pointer (some ⟨B, 0, none⟩)] w fun e w' => e = .returned (.bool (seq x0 nm)) ∧ Below w.heap.size w w' := by
  have hlt := World.block_lt_of_cell? w ⟨B, 0, none⟩ hB
  have hne : B ≠ w.heap.size := fun e => by simp at hlt; omega
  go_enter Tryz.func52, Tryz.ntmps52
  go_wp2
  go_ret
  exact ⟨rfl, by repeat (first | (with_reducible first | exact Below.refl _ _ | apply below_alloc | apply pw_below_drewN | apply below_drew1) | exact Below.refl _ _)⟩
def getL (l : List S47) (nm : ByteArray) : ByteArray := match l.find? (fun x => seq x.f0 nm) with | some x => x.f1 | none => ⟨#[]⟩
theorem find_idx {α : Type} (p : α → Bool) (l : List α) : (∃ i, ∃ h : i < l.length, l.findIdx? p = some i ∧ l.find? p = some l[i]) ∨ (l.findIdx? p = none ∧ l.find? p = none) := by
  cases h : l.findIdx? p with
  | none => exact .inr ⟨rfl, by rw [List.find?_eq_none]; intro x hx; have := List.findIdx?_eq_none_iff.1 h x hx; simp [this]⟩
  | some i =>
    obtain ⟨hi, h1, h2⟩ := List.findIdx?_eq_some_iff_getElem.1 h
    refine .inl ⟨i, hi, rfl, ?_⟩
    rw [List.find?_eq_some_iff_getElem]
    exact ⟨h1, i, hi, rfl, fun j hj => by have := h2 j hj; simpa using this⟩
set_option maxHeartbeats 1000000 in
theorem get_calls (A : Option Addr) (c : Nat) (l : List S47) (nm : ByteArray) (w : World) (hr : Kd.C k47 w A l.length l) : Calls Tryz.prog 25 #[.slice A l.length c, .string nm] w fun e w' => e = .returned (.string (getL l nm)) ∧ Below w.heap.size w w' := by
  have HR := Aside0.mk hr
  obtain ⟨W1, hW1⟩ : ∃ W1, W1 = w.alloc (.cells #[.string nm] 9) := ⟨_, rfl⟩
  obtain ⟨B, hB⟩ : ∃ b, b = w.heap.size := ⟨_, rfl⟩
  have hb1 : Below w.heap.size w W1 := by rw [hW1]; exact below_alloc (Below.refl _ _) _
  have q1 : W1.heap[B]? = some (.cells #[.string nm] 9 (0, 0)) := by rw [hW1, hB]; exact blk_new w _
  have HB1 := Aside0.mk hb1; have HQ := Aside0.mk q1; have HW1 := Aside0.mk hW1; have HBE := Aside0.mk hB
  have hix := indexL_calls 52 #[.pointer (some ⟨B, 0, none⟩)] (enters Tryz.func52 (by kernel_rfl) rfl) (fun x => seq x.f0 nm) A c l W1 (Kd.C_below hr hb1) (fun W x hb => by
    have h := get1_calls x.f0 x.f1 nm B W (by rw [blk_cell (blk_below q1 hb)]; rfl)
    simpa using h)
  have HIX := Aside0.mk hix
  clear hr hW1 hB hb1 q1 hix
  go_enter Tryz.func25, Tryz.ntmps25
  go_upto_region 1 with (fail)
  rw [← HW1.out, ← HBE.out]
  go_wp2_with fail
  refine (HIX.out).mono ?_
  rintro e w2 ⟨rfl, hb2⟩
  have HB2 := Aside0.mk (below_step HB1.out hb2)
  clear hb2
  rcases find_idx (fun x => seq x.f0 nm) l with ⟨i, hi, h1, h2⟩ | ⟨h1, h2⟩
  · have hg : getL l nm = l[i].f1 := by unfold getL; rw [h2]
    have hf : firstI (fun x => seq x.f0 nm) l = (i : Int) := by unfold firstI; rw [h1]
    have HG := Aside0.mk hg
    rw [hf]
    obtain ⟨ad, rfl, c0, c1⟩ := lab_get (Kd.C_below HR.out HB2.out) hi
    obtain ⟨v, hv⟩ : ∃ v, v = l[i].f1 := ⟨_, rfl⟩
    rw [← hv] at c1
    have HV := Aside0.mk hv
    have hil : (i : Int) < (l.length : Int) := by omega
    clear h1 h2 hg hf hv c0
    go_wp2_with fail
    go_ret
    refine ⟨?_, HB2.out⟩
    show Ending.returned (.string v) = _
    rw [HG.out, HV.out]
  · have hg : getL l nm = ⟨#[]⟩ := by unfold getL; rw [h2]
    have hf : firstI (fun x => seq x.f0 nm) l = -1 := by unfold firstI; rw [h1]
    have HG := Aside0.mk hg
    rw [hf]
    clear h1 h2 hg hf
    go_wp2_with fail
    go_ret
    refine ⟨?_, HB2.out⟩
    show Ending.returned (.string ⟨#[]⟩) = _
    rw [HG.out]
/-- Does a value match? -/
def hpf (a b : ByteArray) : Bool := if (b.size : Int) ≤ (a.size : Int) then (a.extract 0 b.size).toList == b.toList else false
theorem hpf_eq (a b : ByteArray) : strings_HasPrefix.f a b = some (hpf a b) := by
  unfold strings_HasPrefix.f stringslite_HasPrefix.f hpf
  by_cases h : (b.size : Int) ≤ (a.size : Int)
  · rw [if_pos h, if_pos h, if_pos (by omega), if_pos h, Int.toNat_natCast]; rfl
  · rw [if_neg h, if_neg h]; rfl
def mtch (v : ByteArray) (m : S35) : Bool :=
  if seq m.f1 ⟨#[61]⟩ then seq v m.f2 else if seq m.f1 ⟨#[33, 61]⟩ then !(seq v m.f2) else if seq m.f1 ⟨#[94, 61]⟩ then hpf v m.f2 else if seq m.f1 ⟨#[33, 94]⟩ then !(hpf v m.f2) else false
set_option maxHeartbeats 1000000 in
theorem matches_calls (v m0 m1 m2 : ByteArray) (w : World) : Calls Tryz.prog 47 #[.string v, .agg #[.string m0, .string m1, .string m2]] w fun e w' => e = .returned (.bool (mtch v ⟨m0, m1, m2⟩)) ∧ Below w.heap.size w w' := by
  obtain ⟨r, hr⟩ : ∃ r, r = mtch v ⟨m0, m1, m2⟩ := ⟨_, rfl⟩
  rw [← hr]
  unfold mtch at hr
  simp only at hr
  have hq1 : seq m1 ⟨#[61]⟩ = (m1.toList == [61]) := by unfold seq; rw [show (⟨#[61]⟩ : ByteArray).toList = [61] by decide +kernel]
  have hq2 : seq m1 ⟨#[33, 61]⟩ = (m1.toList == [33, 61]) := by unfold seq; rw [show (⟨#[33, 61]⟩ : ByteArray).toList = [33, 61] by decide +kernel]
  have hq3 : seq m1 ⟨#[94, 61]⟩ = (m1.toList == [94, 61]) := by unfold seq; rw [show (⟨#[94, 61]⟩ : ByteArray).toList = [94, 61] by decide +kernel]
  have hq4 : seq m1 ⟨#[33, 94]⟩ = (m1.toList == [33, 94]) := by unfold seq; rw [show (⟨#[33, 94]⟩ : ByteArray).toList = [33, 94] by decide +kernel]
  have HR := Aside0.mk hr
  have hp := hpf_eq v m2
  have HP := Aside0.mk hp
  clear hr hp
  have HB0 := Aside0.mk (below_alloc (Below.refl w.heap.size w) (.cells #[.string m0, .string m1, .string m2] 35))
  cases h1 : seq m1 ⟨#[61]⟩ with
  | true =>
    have H1 := Aside0.mk h1
    rw [hq1] at h1
    go_enter Tryz.func47, Tryz.ntmps47
    go_wp2_with fail
    go_ret
    refine ⟨?_, HB0.out⟩
    show Ending.returned (.bool (v.toList == m2.toList)) = _
    rw [HR.out, if_pos H1.out]; rfl
  | false =>
  cases h2 : seq m1 ⟨#[33, 61]⟩ with
  | true =>
    have H1 := Aside0.mk h1; have H2 := Aside0.mk h2
    rw [hq1] at h1; rw [hq2] at h2
    go_enter Tryz.func47, Tryz.ntmps47
    go_wp2_with fail
    go_ret
    refine ⟨?_, HB0.out⟩
    show Ending.returned (.bool (!(v.toList == m2.toList))) = _
    rw [HR.out, if_neg (by rw [H1.out]; decide), if_pos H2.out]; rfl
  | false =>
  cases h3 : seq m1 ⟨#[94, 61]⟩ with
  | true =>
    have H1 := Aside0.mk h1; have H2 := Aside0.mk h2; have H3 := Aside0.mk h3
    rw [hq1] at h1; rw [hq2] at h2; rw [hq3] at h3
    go_enter Tryz.func47, Tryz.ntmps47
    go_wp2_with fail
    refine (strings_HasPrefix.calls v m2 _ _ HP.out).mono ?_
    rintro e w1 ⟨rfl, hd⟩
    have HD := Aside0.mk hd.below
    clear hd
    go_wp2_with fail
    go_ret
    refine ⟨?_, below_step HB0.out HD.out⟩
    show Ending.returned (.bool (hpf v m2)) = _
    rw [HR.out, if_neg (by rw [H1.out]; decide), if_neg (by rw [H2.out]; decide), if_pos H3.out]
  | false =>
  cases h4 : seq m1 ⟨#[33, 94]⟩ with
  | true =>
    have H1 := Aside0.mk h1; have H2 := Aside0.mk h2; have H3 := Aside0.mk h3; have H4 := Aside0.mk h4
    rw [hq1] at h1; rw [hq2] at h2; rw [hq3] at h3; rw [hq4] at h4
    go_enter Tryz.func47, Tryz.ntmps47
    go_wp2_with fail
    refine (strings_HasPrefix.calls v m2 _ _ HP.out).mono ?_
    rintro e w1 ⟨rfl, hd⟩
    have HD := Aside0.mk hd.below
    clear hd
    go_wp2_with fail
    go_ret
    refine ⟨?_, below_step HB0.out HD.out⟩
    show Ending.returned (.bool (!(hpf v m2))) = _
    rw [HR.out, if_neg (by rw [H1.out]; decide), if_neg (by rw [H2.out]; decide), if_neg (by rw [H3.out]; decide), if_pos H4.out]
  | false =>
    have H1 := Aside0.mk h1; have H2 := Aside0.mk h2; have H3 := Aside0.mk h3; have H4 := Aside0.mk h4
    rw [hq1] at h1; rw [hq2] at h2; rw [hq3] at h3; rw [hq4] at h4
    go_enter Tryz.func47, Tryz.ntmps47
    go_wp2_with fail
    go_ret
    refine ⟨?_, HB0.out⟩
    show Ending.returned (.bool false) = _
    rw [HR.out, if_neg (by rw [H1.out]; decide), if_neg (by rw [H2.out]; decide), if_neg (by rw [H3.out]; decide), if_neg (by rw [H4.out]; decide)]
def matchL (l : List S47) (ms : List S35) : Bool := ms.all fun m => mtch (getL l m.f0) m
set_option maxHeartbeats 2000000 in
set_option maxRecDepth 100000 in
theorem match1_calls (A : Option Addr) (c : Nat) (l : List S47) (m0 m1 m2 : ByteArray) (B : Nat) (w : World) (hr : Kd.C k47 w A l.length l) (hB : w.heap[B]? = some (.cells #[.slice A l.length c] 22 (0, 0))) :
    Calls Tryz.prog 46 #[.agg #[.string m0, .string m1, .string m2], .pointer (some ⟨B, 0, none⟩)] w fun e w' => e = .returned (.bool (!(mtch (getL l m0) ⟨m0, m1, m2⟩))) ∧ Below w.heap.size w w' := by
  obtain ⟨W1, hW1⟩ : ∃ W1, W1 = w.alloc (.cells #[.string m0, .string m1, .string m2] 35) := ⟨_, rfl⟩
  obtain ⟨g, hg⟩ : ∃ b, b = w.heap.size := ⟨_, rfl⟩
  have hb1 : Below w.heap.size w W1 := by rw [hW1]; exact below_alloc (Below.refl _ _) _
  have q1 : W1.heap[g]? = some (.cells #[.string m0, .string m1, .string m2] 35 (0, 0)) := by rw [hW1, hg]; exact blk_new w _
  have q0 := blk_below hB hb1
  have HB1 := Aside0.mk hb1; have HW1 := Aside0.mk hW1; have HGE := Aside0.mk hg; have HR := Aside0.mk (Kd.C_below hr hb1)
  obtain ⟨gv, hgv⟩ : ∃ v, v = getL l m0 := ⟨_, rfl⟩
  obtain ⟨mv, hmv⟩ : ∃ v, v = mtch gv ⟨m0, m1, m2⟩ := ⟨_, rfl⟩
  rw [← hgv, ← hmv]
  obtain ⟨Jnv, hJnv⟩ : ∃ J : World → Prop, J = fun W' => Below W1.heap.size W1 W' := ⟨_, rfl⟩
  have HJD : Aside0 (∀ W', Jnv W' → Below W1.heap.size W1 W') := ⟨fun W' h => by rw [hJnv] at h; exact h⟩
  have HDJ : Aside0 (∀ W', Below W1.heap.size W1 W' → Jnv W') := ⟨fun W' h => by rw [hJnv]; exact h⟩
  have HRF : Aside0 (∀ W : World, Below W.heap.size W W) := ⟨fun W => Below.refl _ _⟩
  have SF : Aside0 (∀ W', Jnv W' → W'.cell? ⟨B, 0, none⟩ = some (.slice A l.length c) ∧ W'.cell? ⟨g, 0, none⟩ = some (.string m0) ∧ W'.cell? ⟨g, 1, none⟩ = some (.string m1) ∧ W'.cell? ⟨g, 2, none⟩ = some (.string m2)) := ⟨fun W' hW => by
    have hb := HJD.out W' hW
    exact ⟨by rw [blk_cell (blk_below q0 hb)]; rfl, by rw [blk_cell (blk_below q1 hb)]; rfl, by rw [blk_cell (blk_below q1 hb)]; rfl, by rw [blk_cell (blk_below q1 hb)]; rfl⟩⟩
  have HGT : Aside0 (∀ W', Jnv W' → Calls Tryz.prog 25 #[.slice A l.length c, .string m0] W' fun e w' => e = .returned (.string gv) ∧ Jnv w' ∧ Below W'.heap.size W' w') := ⟨fun W' hW => by
    refine (get_calls A c l m0 W' (Kd.C_below HR.out (HJD.out _ hW))).mono ?_
    rintro e w' ⟨he, hb⟩
    exact ⟨by rw [he, hgv], HDJ.out _ (below_step (HJD.out _ hW) hb), hb⟩⟩
  have HMT : Aside0 (∀ W', Jnv W' → Calls Tryz.prog 47 #[.string gv, .agg #[.string m0, .string m1, .string m2]] W' fun e w' => e = .returned (.bool mv) ∧ Jnv w' ∧ Below W'.heap.size W' w') := ⟨fun W' hW => by
    refine (matches_calls gv m0 m1 m2 W').mono ?_
    rintro e w' ⟨he, hb⟩
    exact ⟨by rw [he, hmv], HDJ.out _ (below_step (HJD.out _ hW) hb), hb⟩⟩
  clear hr hB hW1 hg hb1 q1 q0 hgv hmv hJnv
  go_enter Tryz.func46, Tryz.ntmps46
  go_upto_region 1 with (fail)
  rw [← HW1.out, ← HGE.out]
  refine' wp_region_flow (by kernel_rfl) (by kernel_rfl) Jnv (fun W W' => Below W.heap.size W W') HRF.out (HDJ.out _ (below_drew1 (Below.refl _ _))) _ ?_
  rotate_left
  refine' Flow.val _ 0 (some 4) (Op.load 22 (Operand.tmp 1)) 22 (none) [] _ rfl (by kernel_rfl) (by kernel_rfl) (by kernel_rfl) (by rfl) ?_ ?_ HRF.out
  rotate_left 2
  · (intro W hW hK; have hF := SF.out W hW; go_simp; first | done | with_reducible rfl)
  try simp only [Act.put, List.setIfInBounds_toArray, List.set_cons_zero, List.set_cons_succ]
  refine' Flow.val _ 1 (some 5) (Op.fieldAddr 35 (Operand.tmp 2) 0) 0 (none) [] _ rfl (by kernel_rfl) (by kernel_rfl) (by kernel_rfl) (by rfl) ?_ ?_ HRF.out
  rotate_left 2
  · (intro W hW hK; have hF := SF.out W hW; go_simp; first | done | with_reducible rfl)
  try simp only [Act.put, List.setIfInBounds_toArray, List.set_cons_zero, List.set_cons_succ]
  refine' Flow.val _ 2 (some 6) (Op.load 9 (Operand.tmp 5)) 9 (none) [] _ rfl (by kernel_rfl) (by kernel_rfl) (by kernel_rfl) (by rfl) ?_ ?_ HRF.out
  rotate_left 2
  · (intro W hW hK; have hF := SF.out W hW; go_simp; first | done | with_reducible rfl)
  try simp only [Act.put, List.setIfInBounds_toArray, List.set_cons_zero, List.set_cons_succ]
  refine' Flow.call _ 3 (some 7) (Op.call { callee := Callee.value (Operand.func 25), args := #[Operand.tmp 4, Operand.tmp 6], argTypes := #[22, 9] }) 9 (none) [] _ 25 _ rfl (by kernel_rfl) (by kernel_rfl) (by kernel_rfl) (by rfl) ?_ ?_ ?_
  rotate_left 3
  · (intro W; go_simp; first | done | with_reducible rfl)
  · (intro W hW hK; refine (HGT.out W hW).mono ?_; intro e w' h; exact h)
  try simp only [Act.put, List.setIfInBounds_toArray, List.set_cons_zero, List.set_cons_succ]
  refine' Flow.val _ 4 (some 8) (Op.load 35 (Operand.tmp 2)) 35 (none) [] _ rfl (by kernel_rfl) (by kernel_rfl) (by kernel_rfl) (by rfl) ?_ ?_ HRF.out
  rotate_left 2
  · (intro W hW hK; have hF := SF.out W hW; go_simp; first | done | with_reducible rfl)
  try simp only [Act.put, List.setIfInBounds_toArray, List.set_cons_zero, List.set_cons_succ]
  refine' Flow.call _ 5 (some 9) (Op.call { callee := Callee.value (Operand.func 47), args := #[Operand.tmp 7, Operand.tmp 8], argTypes := #[9, 35] }) 4 (none) [] _ 47 _ rfl (by kernel_rfl) (by kernel_rfl) (by kernel_rfl) (by rfl) ?_ ?_ ?_
  rotate_left 3
  · (intro W; go_simp; first | done | with_reducible rfl)
  · (intro W hW hK; refine (HMT.out W hW).mono ?_; intro e w' h; exact h)
  try simp only [Act.put, List.setIfInBounds_toArray, List.set_cons_zero, List.set_cons_succ]
  refine' Flow.val _ 6 (some 10) (Op.unOp UnOp.not 4 (Operand.tmp 9)) 4 (none) [] _ rfl (by kernel_rfl) (by kernel_rfl) (by kernel_rfl) (by rfl) ?_ ?_ HRF.out
  rotate_left 2
  · (intro W hW hK; go_simp; first | done | with_reducible rfl)
  try simp only [Act.put, List.setIfInBounds_toArray, List.set_cons_zero, List.set_cons_succ]
  refine' Flow.val _ 7 (some 3) (Op.assign (Operand.tmp 10)) 4 (none) [] _ rfl (by kernel_rfl) (by kernel_rfl) (by kernel_rfl) (by rfl) ?_ ?_ HRF.out
  rotate_left 2
  · (intro W hW hK; go_simp; first | done | with_reducible rfl)
  try simp only [Act.put, List.setIfInBounds_toArray, List.set_cons_zero, List.set_cons_succ]
  refine Flow.done _ (by kernel_rfl) ?_
  intro W5 hW hK
  have HB5 := Aside0.mk (below_step HB1.out (HJD.out _ hW))
  clear hK hW SF HGT HMT HJD HDJ HRF
  go_wp2_with fail
  go_ret
  exact ⟨rfl, HB5.out⟩
set_option maxHeartbeats 1000000 in
set_option maxRecDepth 100000 in
theorem match_calls (A : Option Addr) (c : Nat) (l : List S47) (A2 : Option Addr) (c2 : Nat) (ms : List S35) (w : World) (hr : Kd.C k47 w A l.length l) (hr2 : Kd.C k35 w A2 ms.length ms) :
    Calls Tryz.prog 20 #[.slice A l.length c, .slice A2 ms.length c2] w fun e w' => e = .returned (.bool (matchL l ms)) ∧ Below w.heap.size w w' := by
  obtain ⟨W1, hW1⟩ : ∃ W1, W1 = w.alloc (.cells #[.slice A l.length c] 22) := ⟨_, rfl⟩
  obtain ⟨B, hB⟩ : ∃ b, b = w.heap.size := ⟨_, rfl⟩
  have hb1 : Below w.heap.size w W1 := by rw [hW1]; exact below_alloc (Below.refl _ _) _
  have q1 : W1.heap[B]? = some (.cells #[.slice A l.length c] 22 (0, 0)) := by rw [hW1, hB]; exact blk_new w _
  have HB1 := Aside0.mk hb1; have HW1 := Aside0.mk hW1; have HBE := Aside0.mk hB
  have hix := indexM_calls 46 #[.pointer (some ⟨B, 0, none⟩)] (enters Tryz.func46 (by kernel_rfl) rfl) (fun m => !(mtch (getL l m.f0) m)) A2 c2 ms W1 (Kd.C_below hr2 hb1) (fun W x hb => by
    have h := match1_calls A c l x.f0 x.f1 x.f2 B W (Kd.C_below hr (below_step hb1 hb)) (blk_below q1 hb)
    simpa using h)
  have hres : (decide (0 ≤ firstI (fun m => !(mtch (getL l m.f0) m)) ms)) = !(matchL l ms) := by
    unfold matchL
    rcases find_idx (fun m => !(mtch (getL l m.f0) m)) ms with ⟨i, hi, h1, h2⟩ | ⟨h1, h2⟩
    · have hf : firstI (fun m => !(mtch (getL l m.f0) m)) ms = (i : Int) := by unfold firstI; rw [h1]
      rw [hf, decide_eq_true (by omega)]
      have h3 := (List.find?_eq_some_iff_getElem.1 h2).1
      symm
      rw [Bool.not_eq_true', List.all_eq_false]
      exact ⟨ms[i], List.getElem_mem hi, by simpa using h3⟩
    · have hf : firstI (fun m => !(mtch (getL l m.f0) m)) ms = -1 := by unfold firstI; rw [h1]
      rw [hf, decide_eq_false (by omega)]
      symm
      rw [Bool.not_eq_false', List.all_eq_true]
      intro x hx
      have := List.find?_eq_none.1 h2 x hx
      simpa using this
  obtain ⟨fi, hfi⟩ : ∃ v, v = firstI (fun m => !(mtch (getL l m.f0) m)) ms := ⟨_, rfl⟩
  rw [← hfi] at hix hres
  have HIX := Aside0.mk hix; have HRES := Aside0.mk hres
  clear hr hr2 hW1 hB hb1 q1 hix hres hfi
  have hcf : Calls Tryz.prog 45 #[.slice A2 ms.length c2, .func (.func 46) #[] #[.pointer (some ⟨B, 0, none⟩)]] W1 fun e w' => e = .returned (.bool (decide (0 ≤ fi))) ∧ Below W1.heap.size W1 w' := by
    go_enter Tryz.func45, Tryz.ntmps45
    go_wp2_with fail
    refine (HIX.out).mono ?_
    rintro e w2 ⟨rfl, hb2⟩
    have HB2 := Aside0.mk hb2
    clear hb2
    go_wp2_with fail
    go_ret
    exact ⟨rfl, HB2.out⟩
  have HCF := Aside0.mk hcf
  clear hcf
  go_enter Tryz.func20, Tryz.ntmps20
  go_upto_region 1 with (fail)
  rw [← HW1.out, ← HBE.out]
  go_wp2_with fail
  refine (HCF.out).mono ?_
  rintro e w2 ⟨rfl, hb2⟩
  have HB2 := Aside0.mk (below_step HB1.out hb2)
  clear hb2
  go_wp2_with fail
  go_ret
  refine ⟨?_, HB2.out⟩
  show Ending.returned (.bool (!(decide (0 ≤ fi)))) = _
  rw [HRES.out, Bool.not_not]
end Go.Proofs.YtjhgckpcadngaaaGreatK
