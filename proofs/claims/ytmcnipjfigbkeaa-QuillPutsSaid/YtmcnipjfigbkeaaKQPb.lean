/- QuillPuts, walked whole. -/
import Derived.Test.YtmcnipjfigbkeaaPQPx0
import Derived.Test.YtmcnipjfigbkeaaPQPx1
import Derived.Test.YtmcnipjfigbkeaaPQPx2
import Derived.Test.YtmcnipjfigbkeaaKStrip
import Derived.Test.YtmcnipjfigbkeaaKMark
import Derived.Test.YtmcnipjfigbkeaaKFlow3
import Derived.Test.YtmcnipjfigbkeaaKEv
import Derived.Test.YtmcnipjfigbkeaaKOpen
import Derived.Lib.SlBytesConst
import Derived.Lib.Bytes
import Derived.Lib.AppendZerosOnto
import Derived.Deep.RegionWith
import Derived.Deep.QuietTactic
import Derived.BigQuiet
import Derived.Test.YtmcnipjfigbkeaaKQPa
namespace Go.Proofs.YtmcnipjfigbkeaaK.QP
open Go.RowKit Go.Proofs.YtmcnipjfigbkeaaW.PrintWords Go.Proofs.YtmcnipjfigbkeaaW.PrintLast Go.Proofs.YtmcnipjfigbkeaaW.PrintMore
open Go.Crc Go.Proofs.Ytmcnipjfigbkeaa.PQP Go.Proofs.Ytmcnipjfigbkeaa Go.Proofs.YtmcnipjfigbkeaaK
attribute [local go_sem] max2_int min2_int max_two min_two max_three min_three max_four min_four
set_option linter.unusedVariables false
set_option linter.unusedSimpArgs false
theorem int_get {kk : IntKind} {w : World} {A : Option Addr} {n : Nat} {l : List Int} (h : Kd.C (Kd.int kk) w A n l) {i : Nat} (hi : i < l.length) : ∃ ad, A = some ad ∧ w.cell? (ad.add i) = some (.int kk l[i]) := by
  have hn := h.1
  obtain ⟨ad, hA, hcell⟩ := h.2.2 (by omega)
  obtain ⟨cs, hlen, hK, hc⟩ := hcell i l[i] (List.getElem?_eq_getElem hi)
  have := hc 0 (.int kk l[i]) (by rw [show cs = [.int kk l[i]] from hK]; rfl)
  rw [show (Kd.int kk).sz = 1 from rfl, Nat.mul_one, Nat.add_zero] at this
  exact ⟨ad, hA, this⟩
theorem str_get {w : World} {A : Option Addr} {n : Nat} {l : List ByteArray} (h : Kd.C Kd.string w A n l) {i : Nat} (hi : i < l.length) : ∃ ad, A = some ad ∧ w.cell? (ad.add i) = some (.string l[i]) := by
  have hn := h.1
  obtain ⟨ad, hA, hcell⟩ := h.2.2 (by omega)
  obtain ⟨cs, hlen, hK, hc⟩ := hcell i l[i] (List.getElem?_eq_getElem hi)
  have := hc 0 (.string l[i]) (by rw [show cs = [.string l[i]] from hK]; rfl)
  rw [show Kd.string.sz = 1 from rfl, Nat.mul_one, Nat.add_zero] at this
  exact ⟨ad, hA, this⟩
theorem exec_append {ρ : Operand → Value} {s x : Nat} {ty : TypeId} {g : Option (Nat × Bool)} {v u v1 : Value} {w w1 : World} (hs : ρ (.tmp s) = v) (hx : ρ (.tmp x) = u) (h : (Builtin.append_ #[50, 50] ty #[v, u]).run Try.prog w = .ok v1 w1) :
    (execOp ρ (opOf (.call { callee := .builtin .append, args := #[.tmp s, .tmp x], argTypes := #[50, 50] }) ty g)).run Try.prog w = .ok (.value v1) w1 := by
  simp [execOp, resolve, invoke, builtin, opOf, hs, hx, h]
theorem exec_build {ρ : Operand → Value} {ty : TypeId} {g : Option (Nat × Bool)} {w : World} :
    (execOp ρ (opOf (.buildSlice 50 0 #[]) ty g)).run Try.prog w = .ok (.value (.slice (some ⟨w.heap.size, 0, none⟩) 0 0)) (w.alloc (.cells #[] 5)) := by
  have h5 := Try.underlying50
  obtain ⟨i, hi, hzz⟩ := Option.map_eq_some_iff.1 infoB
  simp only [Prod.mk.injEq] at hzz
  obtain ⟨hz, hsz, hby⟩ := hzz
  simp [execOp, opOf, Instr.buildSlice, go_sem, h5, hi, hz, hsz, newRow]
theorem rows2w {W : World} {A A' : Option Addr} {c c' b2 : Nat} {l l' : List Int} (hC : Kd.C (Kd.int .u8) W A l.length l) (hc : l.length ≤ c) (hC' : Kd.C (Kd.int .u8) W A' l'.length l') (hc' : l'.length ≤ c') (h2 : W.heap[b2]? = some (.cells #[.slice A l.length c, .slice A' l'.length c'] 50 (0, 0))) : Kd.C (Kd.slice 5 (Kd.int .u8)) W (some ⟨b2, 0, none⟩) 2 [l, l'] := by
  refine ⟨rfl, by decide, fun _ => ⟨_, rfl, fun j p hj => ?_⟩⟩
  match j, hj with
  | 0, hj =>
    obtain rfl : l = p := by simpa using hj
    refine ⟨[.slice A l.length c], rfl, ⟨_, _, rfl, hc, hC⟩, fun i u hu => ?_⟩
    obtain ⟨rfl, rfl⟩ : i = 0 ∧ u = .slice A l.length c := by
      rcases i with _ | i
      · exact ⟨rfl, by simpa using hu.symm⟩
      · simp at hu
    have := blk_cell h2 0
    simpa [show (Kd.slice 5 (Kd.int .u8)).sz = 1 from rfl, add_plain] using this
  | 1, hj =>
    obtain rfl : l' = p := by simpa using hj
    refine ⟨[.slice A' l'.length c'], rfl, ⟨_, _, rfl, hc', hC'⟩, fun i u hu => ?_⟩
    obtain ⟨rfl, rfl⟩ : i = 0 ∧ u = .slice A' l'.length c' := by
      rcases i with _ | i
      · exact ⟨rfl, by simpa using hu.symm⟩
      · simp at hu
    have := blk_cell h2 1
    simpa [show (Kd.slice 5 (Kd.int .u8)).sz = 1 from rfl, add_plain] using this
  | j + 2, hj => simp at hj
theorem bytes_app {a b : List Int} (h1 : Bytes a) (h2 : Bytes b) : Bytes (a ++ b) := fun x hx => (List.mem_append.1 hx).elim (h1 x) (h2 x)
set_option maxHeartbeats 4000000 in
set_option maxRecDepth 100000 in
theorem puts_walk (b l m : List Int) (s : List ByteArray) (A0 A1 A2 A3 : Option Addr) (c0 c1 c2 c3 : Nat) (w : World) (hr0 : Kd.C (Kd.int .u8) w A0 b.length b) (hc0 : b.length ≤ c0) (hr1 : Kd.C (Kd.int .u64) w A1 l.length l) (hc1 : l.length ≤ c1) (hr2 : Kd.C (Kd.int .i64) w A2 m.length m) (hc2 : m.length ≤ c2) (hr3 : Kd.C Kd.string w A3 s.length s) (hc3 : s.length ≤ c3)
    (hb : Bytes b) (hl : ∀ y ∈ l, 0 ≤ y ∧ y < 18446744073709551616) (hm : ∀ y ∈ m, -9223372036854775808 ≤ y ∧ y ≤ 9223372036854775807) (hs : ∀ y ∈ s, y.size ≤ 140737488351232) (hsl : s.length < 1000000000000000) :
    Calls Try.prog 10 #[.slice A0 b.length c0, .slice A1 l.length c1, .slice A2 m.length c2, .slice A3 s.length c3] w fun e w' => e = .returned (.bool true) ∧ Below w.heap.size w w' := by
  have R0 := Aside0.mk hr0; have R1 := Aside0.mk hr1; have R2 := Aside0.mk hr2; have R3 := Aside0.mk hr3
  have C0 := Aside0.mk hc0; have C1 := Aside0.mk hc1; have C2 := Aside0.mk hc2; have C3 := Aside0.mk hc3
  have HB := Aside0.mk hb; have HL := Aside0.mk hl; have HM := Aside0.mk hm; have HS := Aside0.mk hs; have HSL := Aside0.mk hsl
  clear hr0 hr1 hr2 hr3 hc0 hc1 hc2 hc3 hb hl hm hs hsl
  by_cases h1 : 20000 < (b.length : Int)
  · have d1 : decide (20000 < (b.length : Int)) = true := decide_eq_true h1
    go_enter Try.func10, Try.ntmps10
    go_wp2_with fail
    refine (live1_calls _).mono ?_
    rintro e w1 ⟨rfl, hb1⟩
    go_wp2_with fail
    go_ret
    exact ⟨rfl, hb1⟩
  have d1 : decide (20000 < (b.length : Int)) = false := decide_eq_false h1
  by_cases h2 : 60 < (l.length : Int)
  · have d2 : decide (60 < (l.length : Int)) = true := decide_eq_true h2
    go_enter Try.func10, Try.ntmps10
    go_wp2_with fail
    refine (live1_calls _).mono ?_
    rintro e w1 ⟨rfl, hb1⟩
    go_wp2_with fail
    go_ret
    exact ⟨rfl, hb1⟩
  have d2 : decide (60 < (l.length : Int)) = false := decide_eq_false h2
  by_cases h3 : 60 < (m.length : Int)
  · have d3 : decide (60 < (m.length : Int)) = true := decide_eq_true h3
    go_enter Try.func10, Try.ntmps10
    go_wp2_with fail
    refine (live1_calls _).mono ?_
    rintro e w1 ⟨rfl, hb1⟩
    go_wp2_with fail
    go_ret
    exact ⟨rfl, hb1⟩
  have d3 : decide (60 < (m.length : Int)) = false := decide_eq_false h3
  obtain ⟨r, ⟨kt, hkt⟩, hrt⟩ := texts_loop s HS.out HSL.out 61 0 0 (by omega) (by omega) (by omega) (by omega) (by omega)
  have HKT := Aside0.mk hkt; have HRT := Aside0.mk hrt
  clear hkt hrt
  go_enter Try.func10, Try.ntmps10
  go_wp2_with fail
  refine (klaxonlaw01_texts.calls kt A3 c3 s r w R3.out C3.out HKT.out).mono ?_
  rintro e w1 ⟨rfl, hd1⟩
  have HB1 := Aside0.mk hd1.below
  clear hd1
  cases r with
  | false =>
    go_wp2_with fail
    refine (live1_calls _).mono ?_
    rintro e w2 ⟨rfl, hb2⟩
    have HB2 := Aside0.mk (below_step HB1.out hb2)
    clear hb2
    go_wp2_with fail
    go_ret
    exact ⟨rfl, HB2.out⟩
  | true =>
  have HZ : Aside0 (s.length ≤ 60 ∧ ∀ y ∈ s, y.size ≤ 20000) := ⟨(HRT.out rfl).1, fun y hy => by have := (HRT.out rfl).2.2 y (by simpa using hy); omega⟩
  have HLN : Aside0 (b.length ≤ 20000 ∧ l.length ≤ 60 ∧ m.length ≤ 60) := ⟨by omega, by omega, by omega⟩
  clear HRT HKT d1 d2 d3 h1 h2 h3
  obtain ⟨Wa, hWa⟩ : ∃ W, W = w1.alloc (.cells #[] 5) := ⟨_, rfl⟩
  have hba : Below w1.heap.size w1 Wa := by rw [hWa]; exact below_alloc (Below.refl _ _) _
  have HBa := Aside0.mk hba
  obtain ⟨vx, wa, hra, hRa, hBa⟩ := append_empty Wa w1.heap.size 50 w1.heap.size b A0 c0 (by rw [hWa]; exact blk_new w1 _) (Nat.le_refl _) hba.size (Kd.C_below R0.out (below_step HB1.out hba)) (by have := HLN.out.1; omega)
  obtain ⟨Wb, hWb⟩ : ∃ W, W = wa.alloc (.cells #[] 5) := ⟨_, rfl⟩
  have hbb : Below wa.heap.size wa Wb := by rw [hWb]; exact below_alloc (Below.refl _ _) _
  have HBb := Aside0.mk (below_step (below_step HBa.out hBa) hbb)
  obtain ⟨vy, wb, hrb, hRb, hBb⟩ := append_empty Wb wa.heap.size 50 wa.heap.size b A0 c0 (by rw [hWb]; exact blk_new wa _) (Nat.le_refl _) hbb.size (Kd.C_below R0.out (below_step HB1.out HBb.out)) (by have := HLN.out.1; omega)
  obtain ⟨Wc, hWc⟩ : ∃ W, W = wb.alloc (.cells #[] 5) := ⟨_, rfl⟩
  have hbc : Below wb.heap.size wb Wc := by rw [hWc]; exact below_alloc (Below.refl _ _) _
  have HBc := Aside0.mk (below_step (below_step HBb.out hBb) hbc)
  obtain ⟨vz, wc, hrc, hRc, hBc⟩ := append_empty Wc wb.heap.size 50 wb.heap.size b A0 c0 (by rw [hWc]; exact blk_new wb _) (Nat.le_refl _) hbc.size (Kd.C_below R0.out (below_step HB1.out HBc.out)) (by have := HLN.out.1; omega)
  rw [hWa] at hra
  rw [hWb] at hrb
  rw [hWc] at hrc
  have hsa : wa.heap.size ≤ Wb.heap.size := hbb.size
  have hs1 : w1.heap.size ≤ wa.heap.size := (below_step HBa.out hBa).size
  have hs2 : wa.heap.size ≤ wb.heap.size := Nat.le_trans hbb.size hBb.size
  have hs3 : wb.heap.size ≤ wc.heap.size := Nat.le_trans hbc.size hBc.size
  obtain ⟨PX, hPX⟩ : ∃ P : Nat → Prop, P = fun k => k < wa.heap.size ∨ wc.heap.size ≤ k := ⟨_, rfl⟩
  have hbca : Below Wc.heap.size Wc wc := hBc
  have RX : Aside0 (Kd.R (Kd.int .u8) 5 wc w1.heap.size PX vx b) := ⟨by
    have h := Kd.R_bound hRa
    have h := Kd.R_below (Kd.R_below (Kd.R_below (Kd.R_below (Kd.R_below h hbb) hBb) hbc) hBc) (Below.refl _ _)
    exact Kd.R_mono h fun k hk => by rw [hPX]; exact .inl hk.2.2.1⟩
  have RY : Aside0 (Kd.R (Kd.int .u8) 5 wc wa.heap.size (fun k => wa.heap.size ≤ k ∧ k < wb.heap.size) vy b) := ⟨by
    have h := Kd.R_bound hRb
    have h := Kd.R_below (Kd.R_below h hbc) hBc
    exact Kd.R_mono h fun k hk => ⟨hk.2.1, hk.2.2.1⟩⟩
  have RZ : Aside0 (Kd.R (Kd.int .u8) 5 wc wb.heap.size (fun k => wb.heap.size ≤ k ∧ k < wc.heap.size) vz b) := ⟨Kd.R_mono (Kd.R_bound hRc) fun k hk => ⟨hk.2.1, hk.2.2.1⟩⟩
  have HPX : Aside0 (∀ k, PX k ↔ (k < wa.heap.size ∨ wc.heap.size ≤ k)) := ⟨fun k => by rw [hPX]⟩
  have HSS := Aside0.mk (And.intro hs1 (And.intro hs2 hs3))
  have HB3 := Aside0.mk (below_step HBc.out hBc); have HBC := Aside0.mk hBc
  clear hba hRa hBa hbb hRb hBb hbc hRc hBc hWa hWb hWc hsa hs1 hs2 hs3 hPX hbca
  go_wp2_with (first
    | ((with_reducible refine gate_builtin (b := .append) (xs := #[.tmp 34, .tmp 35]) rfl ?_); at_builtin; refine Lib.wpList_append_run _ rfl (.tmp 34) (.tmp 35) 50 50 rfl _ _ rfl rfl _ _ hra ?_)
    | ((with_reducible refine gate_builtin (b := .append) (xs := #[.tmp 37, .tmp 38]) rfl ?_); at_builtin; refine Lib.wpList_append_run _ rfl (.tmp 37) (.tmp 38) 50 50 rfl _ _ rfl rfl _ _ hrb ?_)
    | ((with_reducible refine gate_builtin (b := .append) (xs := #[.tmp 40, .tmp 41]) rfl ?_); at_builtin; refine Lib.wpList_append_run _ rfl (.tmp 40) (.tmp 41) 50 50 rfl _ _ rfl rfl _ _ hrc ?_))
  clear hra hrb hrc
  have hl60 := HLN.out.2.1; have hm60 := HLN.out.2.2; have hs60 := HZ.out.1
  go_loopw [9, 12] (fun v i wr => ∃ k : Nat, k ≤ l.length ∧ i = .int .i64 (k : Int) ∧ Aside0 (Kd.R (Kd.int .u8) 5 wr w1.heap.size PX v (b ++ (l.take k).flatMap dig)) ∧ Aside0 (Below w1.heap.size w1 wr ∧ wc.heap.size ≤ wr.heap.size ∧ Kept wc wr PX)) (fun _ i _ => l.length - (intOf i).toNat)
  case atStart => exact ⟨0, Nat.zero_le _, rfl, ⟨by simpa using RX.out⟩, ⟨HB3.out, Nat.le_refl _, Kept.refl _ _⟩⟩
  case round =>
    obtain ⟨k, hk, rfl, HX, HI⟩ := hrel
    by_cases hlt : k < l.length
    · obtain ⟨ad, rfl, y0⟩ := int_get (Kd.C_below R1.out (below_step HB1.out HI.out.1)) hlt
      have hln := HL.out _ (List.getElem_mem hlt)
      have hfs := flat_succ dig l k hlt
      obtain ⟨yk, hyk⟩ : ∃ y, y = l[k] := ⟨_, rfl⟩
      rw [← hyk] at y0 hln hfs
      have hac := fdig_len l k
      have hcu := uint_calls PX _ (b ++ (l.take k).flatMap dig) yk w1 wr HI.out.1 HX.out hln.1 hln.2 (by rw [List.length_append]; have := HLN.out; omega)
      have HCU := Aside0.mk hcu; have HFS := Aside0.mk hfs
      have hki : (k : Int) < (l.length : Int) := by omega
      have HLT := Aside0.mk hlt
      clear hcu hfs hyk hln hac
      go_wp2_with fail
      refine (HCU.out).mono ?_
      rintro e w2 ⟨v1, rfl, hR2, hB2, hK2⟩
      have HX2 : Aside0 (Kd.R (Kd.int .u8) 5 w2 w1.heap.size PX v1 (b ++ (l.take (k + 1)).flatMap dig)) := ⟨by
        rw [HFS.out, ← List.append_assoc]
        exact Kd.R_mono hR2 fun q hq => hq.elim id fun h => (HPX.out q).2 (.inr (Nat.le_trans HI.out.2.1 h))⟩
      have HI2 := Aside0.mk (And.intro hB2 (And.intro (Nat.le_trans HI.out.2.1 hK2.1) (HI.out.2.2.then_ hK2 fun _ h => .inl h)))
      clear hR2 hB2 hK2
      go_wp2_with fail
      go_roundw
      case rel => exact ⟨k + 1, HLT.out, by go_num, HX2, HI2⟩
      case measure => (have := HLT.out; simp [intOf]; try omega)
    · obtain rfl : k = l.length := by omega
      have hkf : ¬ ((l.length : Int) < (l.length : Int)) := by omega
      have HXE := HX
      rw [List.take_length] at HXE
      clear hlt hk
      go_wp2_with fail
      have HIX := HI
      obtain ⟨wx, rfl⟩ : ∃ W, W = wr := ⟨_, rfl⟩
      have RY2 : Aside0 (Kd.R (Kd.int .u8) 5 wx wa.heap.size (fun k => wa.heap.size ≤ k ∧ k < wb.heap.size) vy b) := ⟨Kd.R_kept RY.out HI.out.2.2 fun k hk hx => by have h1 := HSS.out; rcases (HPX.out k).1 hx with h | h <;> omega⟩
      have RZ2 : Aside0 (Kd.R (Kd.int .u8) 5 wx wb.heap.size (fun k => wb.heap.size ≤ k ∧ k < wc.heap.size) vz b) := ⟨Kd.R_kept RZ.out HI.out.2.2 fun k hk hx => by have h1 := HSS.out; rcases (HPX.out k).1 hx with h | h <;> omega⟩
      obtain ⟨PY, hPY⟩ : ∃ P : Nat → Prop, P = fun k => (wa.heap.size ≤ k ∧ k < wb.heap.size) ∨ wx.heap.size ≤ k := ⟨_, rfl⟩
      have HPY : Aside0 (∀ k, PY k ↔ ((wa.heap.size ≤ k ∧ k < wb.heap.size) ∨ wx.heap.size ≤ k)) := ⟨fun k => by rw [hPY]⟩
      have HXB := Aside0.mk (Kd.R_bound HXE.out)
      have RY3 : Aside0 (Kd.R (Kd.int .u8) 5 wx w1.heap.size PY vy b) := ⟨Kd.R_lower (Kd.R_mono RY2.out fun k hk => (HPY.out k).2 (.inl hk)) HSS.out.1⟩
      clear hPY HX
      go_loopw [10, 13] (fun v i wr => ∃ k : Nat, k ≤ m.length ∧ i = .int .i64 (k : Int) ∧ Aside0 (Kd.R (Kd.int .u8) 5 wr w1.heap.size PY v (b ++ (m.take k).flatMap sdig)) ∧ Aside0 (Below w1.heap.size w1 wr ∧ wx.heap.size ≤ wr.heap.size ∧ Kept wx wr PY)) (fun _ i _ => m.length - (intOf i).toNat)
      case atStart => exact ⟨0, Nat.zero_le _, rfl, ⟨by simpa using RY3.out⟩, ⟨HIX.out.1, Nat.le_refl _, Kept.refl _ _⟩⟩
      case round =>
        obtain ⟨k, hk, rfl, HX, HI⟩ := hrel
        by_cases hlt : k < m.length
        · skip
          obtain ⟨ad, rfl, y0⟩ := int_get (Kd.C_below R2.out (below_step HB1.out HI.out.1)) hlt
          have hln := HM.out _ (List.getElem_mem hlt)
          have hfs := flat_succ sdig m k hlt
          obtain ⟨yk, hyk⟩ : ∃ y, y = m[k] := ⟨_, rfl⟩
          rw [← hyk] at y0 hln hfs
          have hac := fsdig_len m k
          have hcu := int_calls PY _ (b ++ (m.take k).flatMap sdig) yk w1 wr HI.out.1 HX.out hln.1 hln.2 (by rw [List.length_append]; have := HLN.out; omega)
          have HCU := Aside0.mk hcu; have HFS := Aside0.mk hfs
          have hki : (k : Int) < (m.length : Int) := by omega
          have HLT := Aside0.mk hlt
          clear hcu hfs hyk hln hac
          go_wp2_with fail
          refine (HCU.out).mono ?_
          rintro e w2 ⟨v1, rfl, hR2, hB2, hK2⟩
          have HX2 : Aside0 (Kd.R (Kd.int .u8) 5 w2 w1.heap.size PY v1 (b ++ (m.take (k + 1)).flatMap sdig)) := ⟨by
            rw [HFS.out, ← List.append_assoc]
            exact Kd.R_mono hR2 fun q hq => hq.elim id fun h => (HPY.out q).2 (.inr (Nat.le_trans HI.out.2.1 h))⟩
          have HI2 := Aside0.mk (And.intro hB2 (And.intro (Nat.le_trans HI.out.2.1 hK2.1) (HI.out.2.2.then_ hK2 fun _ h => .inl h)))
          clear hR2 hB2 hK2
          go_wp2_with fail
          go_roundw
          case rel => exact ⟨k + 1, HLT.out, by go_num, HX2, HI2⟩
          case measure => (have := HLT.out; simp [intOf]; try omega)
        · obtain rfl : k = m.length := by omega
          have hkf : ¬ ((m.length : Int) < (m.length : Int)) := by omega
          have HYE := HX
          rw [List.take_length] at HYE
          clear hlt hk
          go_wp2_with fail
          have HIY := HI
          obtain ⟨wy, rfl⟩ : ∃ W, W = wr := ⟨_, rfl⟩
          have RX3 : Aside0 (Kd.R (Kd.int .u8) 5 wy w1.heap.size PX _ (b ++ l.flatMap dig)) := ⟨Kd.R_mono (Kd.R_kept HXB.out HI.out.2.2 fun k hk hy => by have h1 := HSS.out; rcases (HPX.out k).1 hk.1 with h | h <;> rcases (HPY.out k).1 hy with h' | h' <;> omega) fun k hk => hk.1⟩
          have RZ3 : Aside0 (Kd.R (Kd.int .u8) 5 wy wb.heap.size (fun k => wb.heap.size ≤ k ∧ k < wc.heap.size) vz b) := ⟨Kd.R_kept RZ2.out HI.out.2.2 fun k hk hy => by have h1 := HSS.out; have h2 := HIX.out.2.1; rcases (HPY.out k).1 hy with h' | h' <;> omega⟩
          have HXB2 : Aside0 (Kd.R (Kd.int .u8) 5 wy w1.heap.size (fun k => PX k ∧ k < wx.heap.size) _ (b ++ l.flatMap dig)) := ⟨Kd.R_mono (Kd.R_kept HXB.out HI.out.2.2 fun k hk hy => by have h1 := HSS.out; rcases (HPX.out k).1 hk.1 with h | h <;> rcases (HPY.out k).1 hy with h' | h' <;> omega) fun k hk => ⟨hk.1, hk.2.2.1⟩⟩
          have HYB := Aside0.mk (Kd.R_bound HYE.out)
          obtain ⟨PZ, hPZ⟩ : ∃ P : Nat → Prop, P = fun k => (wb.heap.size ≤ k ∧ k < wc.heap.size) ∨ wy.heap.size ≤ k := ⟨_, rfl⟩
          have HPZ : Aside0 (∀ k, PZ k ↔ ((wb.heap.size ≤ k ∧ k < wc.heap.size) ∨ wy.heap.size ≤ k)) := ⟨fun k => by rw [hPZ]⟩
          have RZ4 : Aside0 (Kd.R (Kd.int .u8) 5 wy w1.heap.size PZ vz b) := ⟨Kd.R_lower (Kd.R_mono RZ3.out fun k hk => (HPZ.out k).2 (.inl hk)) (Nat.le_trans HSS.out.1 HSS.out.2.1)⟩
          clear hPZ HX
          go_loopw [11, 14] (fun v i wt => ∃ k : Nat, k ≤ s.length ∧ i = .int .i64 (k : Int) ∧ Aside0 (Kd.R (Kd.int .u8) 5 wt w1.heap.size PZ v (b ++ (s.take k).flatMap tdig)) ∧ Aside0 (Below w1.heap.size w1 wt ∧ wy.heap.size ≤ wt.heap.size ∧ Kept wy wt PZ)) (fun _ i _ => s.length - (intOf i).toNat)
          case atStart => exact ⟨0, Nat.zero_le _, rfl, ⟨by simpa using RZ4.out⟩, ⟨HIY.out.1, Nat.le_refl _, Kept.refl _ _⟩⟩
          case round =>
            obtain ⟨k, hk, rfl, HX, HI⟩ := hrel
            by_cases hlt : k < s.length
            · skip
              obtain ⟨ad, rfl, y0⟩ := str_get (Kd.C_below R3.out (below_step HB1.out HI.out.1)) hlt
              have hln := HZ.out.2 _ (List.getElem_mem hlt)
              have hfs := flat_succ tdig s k hlt
              obtain ⟨yk, hyk⟩ : ∃ y, y = s[k] := ⟨_, rfl⟩
              rw [← hyk] at y0 hln hfs
              have hac := ftdig_len s HZ.out.2 k
              have hcu := rtext_calls PZ _ (b ++ (s.take k).flatMap tdig) yk w1 wr HI.out.1 HX.out hln (by rw [List.length_append]; have := HLN.out; omega)
              have HCU := Aside0.mk hcu; have HFS := Aside0.mk hfs
              have hki : (k : Int) < (s.length : Int) := by omega
              have HLT := Aside0.mk hlt
              clear hcu hfs hyk hln hac
              go_wp2_with fail
              refine (HCU.out).mono ?_
              rintro e w2 ⟨v1, rfl, hR2, hB2, hK2⟩
              have HX2 : Aside0 (Kd.R (Kd.int .u8) 5 w2 w1.heap.size PZ v1 (b ++ (s.take (k + 1)).flatMap tdig)) := ⟨by
                rw [HFS.out, ← List.append_assoc]
                exact Kd.R_mono hR2 fun q hq => hq.elim id fun h => (HPZ.out q).2 (.inr (Nat.le_trans HI.out.2.1 h))⟩
              have HI2 := Aside0.mk (And.intro hB2 (And.intro (Nat.le_trans HI.out.2.1 hK2.1) (HI.out.2.2.then_ hK2 fun _ h => .inl h)))
              clear hR2 hB2 hK2
              go_wp2_with fail
              go_roundw
              case rel => exact ⟨k + 1, HLT.out, by go_num, HX2, HI2⟩
              case measure => (have := HLT.out; simp [intOf]; try omega)
            · obtain rfl : k = s.length := by omega
              have hkf : ¬ ((s.length : Int) < (s.length : Int)) := by omega
              have HZE := HX
              rw [List.take_length] at HZE
              clear hlt hk
              have RXF := Aside0.mk (Kd.R_kept HXB2.out HI.out.2.2 fun k hk hy => by have h1 := HSS.out; have h2 := HIX.out.2.1; have h3 := HIY.out.2.1; rcases (HPX.out k).1 hk.1 with h | h <;> rcases (HPZ.out k).1 hy with h' | h' <;> omega)
              have RYF := Aside0.mk (Kd.R_kept HYB.out HI.out.2.2 fun k hk hy => by have h1 := HSS.out; have h2 := HIX.out.2.1; rcases (HPY.out k).1 hk.1 with h | h <;> rcases (HPZ.out k).1 hy with h' | h' <;> omega)
              have RZF := HZE
              have HB4 := Aside0.mk HI.out.1
              obtain ⟨AX, cX, hvx, hcx, hCX⟩ := Kd.R_reads RXF.out
              obtain ⟨AY, cY, hvy, hcy, hCY⟩ := Kd.R_reads RYF.out
              obtain ⟨AZ, cZ, hvz, hcz, hCZ⟩ := Kd.R_reads RZF.out
              obtain ⟨bx, hbx⟩ : ∃ q, q = b ++ l.flatMap dig := ⟨_, rfl⟩
              obtain ⟨by_, hby⟩ : ∃ q, q = b ++ m.flatMap sdig := ⟨_, rfl⟩
              obtain ⟨bz, hbz⟩ : ∃ q, q = b ++ s.flatMap tdig := ⟨_, rfl⟩
              rw [← hbx] at hvx hcx hCX
              rw [← hby] at hvy hcy hCY
              rw [← hbz] at hvz hcz hCZ
              subst hvx hvy hvz
              have HBX := Aside0.mk hbx; have HBY := Aside0.mk hby; have HBZ := Aside0.mk hbz
              obtain ⟨zx, hzx⟩ : ∃ q, q = strOfNums bx := ⟨_, rfl⟩
              obtain ⟨zy, hzy⟩ : ∃ q, q = strOfNums by_ := ⟨_, rfl⟩
              obtain ⟨zz, hzz⟩ : ∃ q, q = strOfNums bz := ⟨_, rfl⟩
              have Hzx := Aside0.mk hzx; have Hzy := Aside0.mk hzy; have Hzz := Aside0.mk hzz
              have HCX := Aside0.mk (And.intro hcx hCX); have HCY := Aside0.mk (And.intro hcy hCY); have HCZ := Aside0.mk (And.intro hcz hCZ)
              obtain ⟨Jnv, hJnv⟩ : ∃ J : World → Prop, J = fun W' => Below wr.heap.size wr W' := ⟨_, rfl⟩
              have HJD : Aside0 (∀ W', Jnv W' → Below wr.heap.size wr W') := ⟨fun W' h => by rw [hJnv] at h; exact h⟩
              have HDJ : Aside0 (∀ W', Below wr.heap.size wr W' → Jnv W') := ⟨fun W' h => by rw [hJnv]; exact h⟩
              have HJB : Aside0 (∀ W W', Jnv W → Below W.heap.size W W' → Jnv W') := ⟨fun W W' h h2 => HDJ.out _ (below_step (HJD.out _ h) h2)⟩
              have HJA : Aside0 (∀ W o, Jnv W → Jnv (W.alloc o)) := ⟨fun W o h => HJB.out _ _ h (below_alloc (Below.refl _ _) _)⟩
              have HRF : Aside0 (∀ W : World, Below W.heap.size W W) := ⟨fun W => Below.refl _ _⟩
              have HBW := Aside0.mk (below_step HB1.out HB4.out)
              have HCB : Aside0 (∀ W', Jnv W' → Kd.C (Kd.int .u8) W' A0 b.length b) := ⟨fun W' h => Kd.C_below R0.out (below_step HBW.out (HJD.out _ h))⟩
              have HCx : Aside0 (∀ W', Jnv W' → Kd.C (Kd.int .u8) W' AX bx.length bx) := ⟨fun W' h => Kd.C_below HCX.out.2 (HJD.out _ h)⟩
              have HCy : Aside0 (∀ W', Jnv W' → Kd.C (Kd.int .u8) W' AY by_.length by_) := ⟨fun W' h => Kd.C_below HCY.out.2 (HJD.out _ h)⟩
              have HCz : Aside0 (∀ W', Jnv W' → Kd.C (Kd.int .u8) W' AZ bz.length bz) := ⟨fun W' h => Kd.C_below HCZ.out.2 (HJD.out _ h)⟩
              have HCV : Aside0 (∀ (W : World) (A : Option Addr) (c : Nat) (q : List Int), Kd.C (Kd.int .u8) W A q.length q → (convert 50 9 (.slice A q.length c)).run Try.prog W = .ok (.string (strOfNums q)) W) := ⟨fun W A c q h => Kd.C_string (c := c) Try.underlying50 Try.underlying5 Try.underlying9 h⟩
              have HNW : Aside0 (∀ (W : World) (A : Option Addr) (n : Nat), Jnv W → ∀ k, wr.heap.size ≤ k → w.heap.size ≤ k) := ⟨fun W A n h k hk => Nat.le_trans HBW.out.size hk⟩
              have HNum : Aside0 (∀ (W : World) (v : Value), Jnv W → Kd.R (Kd.int .u8) 5 W wr.heap.size (fun _ => True) v b → Calls Try.prog 29 #[v, .slice A1 l.length c1] W fun e w' => ∃ v1, e = .returned v1 ∧ Jnv w' ∧ Kd.R (Kd.int .u8) 5 w' wr.heap.size (fun _ => True) v1 bx) := ⟨fun W v hW hR => by
                obtain ⟨k, hk⟩ := number_loop l HL.out (by have := HLN.out; omega) l.length 0 b (by omega) (by omega) (by have := HLN.out; omega)
                have hf : quill_Number.f k b l = some bx := by rw [HBX.out]; simpa [quill_Number.f] using hk
                refine (quill_Number.calls k (fun k => wr.heap.size ≤ k) v b A1 c1 l bx wr W (HJD.out _ hW) (Kd.R_mono (Kd.R_bound hR) fun k hk => hk.2.1) (Kd.C_kept_came (Kd.heap_int _) R1.out (below_step HBW.out (HJD.out _ hW)) (fun k hk => Nat.le_trans HBW.out.size hk)) C1.out hf).mono ?_
                rintro e w' ⟨v1, he, h1, h2, _⟩
                exact ⟨v1, he, HDJ.out _ h2, Kd.R_mono h1 fun _ _ => trivial⟩⟩
              have HSig : Aside0 (∀ (W : World) (v : Value), Jnv W → Kd.R (Kd.int .u8) 5 W wr.heap.size (fun _ => True) v b → Calls Try.prog 36 #[v, .slice A2 m.length c2] W fun e w' => ∃ v1, e = .returned v1 ∧ Jnv w' ∧ Kd.R (Kd.int .u8) 5 w' wr.heap.size (fun _ => True) v1 by_) := ⟨fun W v hW hR => by
                obtain ⟨k, hk⟩ := signed_loop m HM.out (by have := HLN.out; omega) m.length 0 b (by omega) (by omega) (by have := HLN.out; omega)
                have hf : quill_Signed.f k b m = some by_ := by rw [HBY.out]; simpa [quill_Signed.f] using hk
                refine (quill_Signed.calls k (fun k => wr.heap.size ≤ k) v b A2 c2 m by_ wr W (HJD.out _ hW) (Kd.R_mono (Kd.R_bound hR) fun k hk => hk.2.1) (Kd.C_kept_came (Kd.heap_int _) R2.out (below_step HBW.out (HJD.out _ hW)) (fun k hk => Nat.le_trans HBW.out.size hk)) C2.out hf).mono ?_
                rintro e w' ⟨v1, he, h1, h2, _⟩
                exact ⟨v1, he, HDJ.out _ h2, Kd.R_mono h1 fun _ _ => trivial⟩⟩
              have HTxt : Aside0 (∀ (W : World) (v : Value), Jnv W → Kd.R (Kd.int .u8) 5 W wr.heap.size (fun _ => True) v b → Calls Try.prog 42 #[v, .slice A3 s.length c3] W fun e w' => ∃ v1, e = .returned v1 ∧ Jnv w' ∧ Kd.R (Kd.int .u8) 5 w' wr.heap.size (fun _ => True) v1 bz) := ⟨fun W v hW hR => by
                obtain ⟨k, hk⟩ := text_loop s HZ.out.2 (by have := HZ.out; omega) s.length 0 b (by omega) (by omega) (by have := HLN.out; have := HZ.out; omega)
                have hf : quill_Text.f k b s = some bz := by rw [HBZ.out]; simpa [quill_Text.f] using hk
                refine (quill_Text.calls k (fun k => wr.heap.size ≤ k) v b A3 c3 s bz wr W (HJD.out _ hW) (Kd.R_mono (Kd.R_bound hR) fun k hk => hk.2.1) (Kd.C_kept_came Kd.heap_string R3.out (below_step HBW.out (HJD.out _ hW)) (fun k hk => Nat.le_trans HBW.out.size hk)) C3.out hf).mono ?_
                rintro e w' ⟨v1, he, h1, h2, _⟩
                exact ⟨v1, he, HDJ.out _ h2, Kd.R_mono h1 fun _ _ => trivial⟩⟩
              clear hJnv hbx hby hbz hzx hzy hzz hcx hcy hcz hCX hCY hCZ RXF RYF RZF HZE HX
              go_upto_region 16 with (fail)
              refine wp_region_any (by kernel_rfl) ?_
              have hW : Jnv wr.drew := HDJ.out _ (below_drew (Below.refl _ _))
              refine wpAny_flow3 (by kernel_rfl) Jnv (fun W W' => Below W.heap.size W W') (fun _ _ => True) 4 (fun k => k == 0 || k == 2) HRF.out (fun _ => trivial) hW (by kernel_rfl) [(0, (fun v => ∃ g : Nat, v = Value.slice (some ⟨g, 0, none⟩) 0 0), (fun v W => ∃ g : Nat, v = Value.slice (some ⟨g, 0, none⟩) 0 0 ∧ wr.heap.size ≤ g ∧ W.heap[g]? = some (Obj.cells #[] 5 (0, 0)))), (1, (fun u => u = Value.slice A0 b.length c0), (fun _ _ => True)), (2, (fun _ => True), (fun v W => Kd.R (Kd.int .u8) 5 W wr.heap.size (fun _ => True) v b)), (3, (fun u => u = Value.slice A1 l.length c1), (fun _ _ => True)), (4, (fun _ => True), (fun v W => Kd.R (Kd.int .u8) 5 W wr.heap.size (fun _ => True) v bx)), (5, (fun u => u = Value.string zx), (fun _ _ => True)), (6, (fun u => u = Value.slice AX bx.length cX), (fun _ _ => True)), (7, (fun u => u = Value.string zx), (fun _ _ => True)), (8, (fun u => u = Value.bool true), (fun _ _ => True))] ?_
              refine Flow3.op _ 0 (some 79) (Op.buildSlice 50 0 #[]) 50 (none) [] _ _ rfl (by kernel_rfl) (by kernel_rfl) (by kernel_rfl) (by rfl) ⟨_, 0, rfl⟩ ?_ ?_ (by rfl) ?_ ?_
              · rintro v W W' hu ⟨q, hv, hq, hb⟩; exact ⟨q, hv, hq, blk_below hb hu⟩
              · intro hd; exact absurd hd (by decide)
              · rw [upOf_ne (by decide)]; intro W hW hK; exact .inl ⟨_, _, ⟨_, rfl⟩, HJA.out _ _ hW, below_alloc (Below.refl _ _) _, ⟨_, rfl, (HJD.out _ hW).size, blk_new W _⟩, exec_build⟩
              rintro v0 ⟨q0, rfl⟩
              try simp only [Act.put, List.setIfInBounds_toArray, List.set_cons_zero, List.set_cons_succ]
              refine Flow3.val _ 1 (some 80) (Op.move (Operand.tmp 0)) 50 (none) [] _ rfl (by kernel_rfl) (by kernel_rfl) (by kernel_rfl) (by rfl) (by rfl) ?_ ?_ HRF.out (fun _ => trivial)
              · (intro W hW hK; go_simp; first | done | with_reducible rfl)
              try simp only [Act.put, List.setIfInBounds_toArray, List.set_cons_zero, List.set_cons_succ]
              refine Flow3.op _ 2 (some 81) (Op.call { callee := Callee.builtin Builtin.append, args := #[Operand.tmp 79, Operand.tmp 80], argTypes := #[50, 50] }) 50 (none) [0] _ _ rfl (by kernel_rfl) (by kernel_rfl) (by kernel_rfl) (by rfl) ⟨undef, trivial⟩ ?_ ?_ (by rfl) ?_ ?_
              · intro v W W' hu hr; exact Kd.R_below hr hu
              · intro hd; exact absurd hd (by decide)
              · rw [upOf_ne (by decide)]
                intro W hW hK
                have h0 := hK 0 (by simp)
                simp [updK] at h0
                obtain ⟨hq, hb⟩ := h0
                obtain ⟨v1, W1, hr, hR, hB⟩ := append_empty W wr.heap.size 50 q0 b A0 c0 hb hq (HJD.out _ hW).size (HCB.out _ hW) (by have := HLN.out.1; omega)
                exact .inl ⟨v1, W1, trivial, HJB.out _ _ hW hB, hB, hR, exec_append (by rfl) (by rfl) hr⟩
              intro v2 _
              try simp only [Act.put, List.setIfInBounds_toArray, List.set_cons_zero, List.set_cons_succ]
              refine Flow3.val _ 3 (some 82) (Op.move (Operand.tmp 1)) 65 (none) [] _ rfl (by kernel_rfl) (by kernel_rfl) (by kernel_rfl) (by rfl) (by rfl) ?_ ?_ HRF.out (fun _ => trivial)
              · (intro W hW hK; go_simp; first | done | with_reducible rfl)
              try simp only [Act.put, List.setIfInBounds_toArray, List.set_cons_zero, List.set_cons_succ]
              refine Flow3.op _ 4 (some 83) (Op.call { callee := Callee.value (Operand.func 29), args := #[Operand.tmp 81, Operand.tmp 82], argTypes := #[50, 65] }) 50 (none) [2] _ _ rfl (by kernel_rfl) (by kernel_rfl) (by kernel_rfl) (by rfl) ⟨undef, trivial⟩ ?_ ?_ (by rfl) ?_ ?_
              · intro v W W' hu hr; exact Kd.R_below hr hu
              · intro _ hd; exact absurd rfl hd
              · rw [upOf_eq]
                intro W hW hK
                have h0 := hK 2 (by simp)
                simp [updK] at h0
                refine .inr ⟨29, #[v2, Value.slice A1 l.length c1], by (go_simp; first | done | with_reducible rfl), ?_⟩
                refine (HNum.out W v2 hW h0).mono ?_
                rintro e w' ⟨v1, rfl, hJ, hR⟩
                exact ⟨v1, rfl, trivial, hJ, trivial, hR⟩
              intro v4 _
              try simp only [Act.put, List.setIfInBounds_toArray, List.set_cons_zero, List.set_cons_succ]
              refine Flow3.val _ 5 (some 84) (Op.convert 50 9 (Operand.tmp 83)) 9 (none) [4] _ rfl (by kernel_rfl) (by kernel_rfl) (by kernel_rfl) (by rfl) (by rfl) ?_ ?_ HRF.out (fun _ => trivial)
              · (intro W hW hK; have h0 := hK 4 (by simp); simp [updK] at h0; obtain ⟨A4, k4, rfl, _, hC4⟩ := Kd.R_reads h0; have hcv := HCV.out W A4 k4 bx hC4; rw [← Hzx.out] at hcv; go_simp; first | done | with_reducible rfl)
              try simp only [Act.put, List.setIfInBounds_toArray, List.set_cons_zero, List.set_cons_succ]
              refine Flow3.val _ 6 (some 85) (Op.move (Operand.tmp 9)) 50 (none) [] _ rfl (by kernel_rfl) (by kernel_rfl) (by kernel_rfl) (by rfl) (by rfl) ?_ ?_ HRF.out (fun _ => trivial)
              · (intro W hW hK; go_simp; first | done | with_reducible rfl)
              try simp only [Act.put, List.setIfInBounds_toArray, List.set_cons_zero, List.set_cons_succ]
              refine Flow3.val _ 7 (some 86) (Op.convert 50 9 (Operand.tmp 85)) 9 (none) [] _ rfl (by kernel_rfl) (by kernel_rfl) (by kernel_rfl) (by rfl) (by rfl) ?_ ?_ HRF.out (fun _ => trivial)
              · (intro W hW hK; have hcv := HCV.out W AX cX bx (HCx.out W hW); rw [← Hzx.out] at hcv; go_simp; first | done | with_reducible rfl)
              try simp only [Act.put, List.setIfInBounds_toArray, List.set_cons_zero, List.set_cons_succ]
              refine Flow3.val _ 8 (some 87) (Op.binOp BinOp.eql 9 (Operand.tmp 84) (Operand.tmp 86) 9) 4 (none) [] _ rfl (by kernel_rfl) (by kernel_rfl) (by kernel_rfl) (by rfl) (by rfl) ?_ ?_ HRF.out (fun _ => trivial)
              · (intro W hW hK; go_simp; first | done | with_reducible rfl)
              try simp only [Act.put, List.setIfInBounds_toArray, List.set_cons_zero, List.set_cons_succ]
              refine Flow3.part _ 9 (some 88) (Op.move (Operand.tmp 87)) 4 (none) (.bool true) rfl 12 (by kernel_rfl) (by kernel_rfl) (by rfl) ?_ ?_
              · (intro W hW; go_simp; first | done | with_reducible rfl)
              try simp only [Act.put, List.setIfInBounds_toArray, List.set_cons_zero, List.set_cons_succ]
              intro W hW _
              skip
              refine wpAny_flow3 (by kernel_rfl) Jnv (fun W W' => Below W.heap.size W W') (fun _ _ => True) 14 (fun k => k == 10 || k == 12) HRF.out (fun _ => trivial) hW (by kernel_rfl) [(10, (fun v => ∃ g : Nat, v = Value.slice (some ⟨g, 0, none⟩) 0 0), (fun v W => ∃ g : Nat, v = Value.slice (some ⟨g, 0, none⟩) 0 0 ∧ wr.heap.size ≤ g ∧ W.heap[g]? = some (Obj.cells #[] 5 (0, 0)))), (11, (fun u => u = Value.slice A0 b.length c0), (fun _ _ => True)), (12, (fun _ => True), (fun v W => Kd.R (Kd.int .u8) 5 W wr.heap.size (fun _ => True) v b)), (13, (fun u => u = Value.slice A2 m.length c2), (fun _ _ => True)), (14, (fun _ => True), (fun v W => Kd.R (Kd.int .u8) 5 W wr.heap.size (fun _ => True) v by_)), (15, (fun u => u = Value.string zy), (fun _ _ => True)), (16, (fun u => u = Value.slice AY by_.length cY), (fun _ _ => True)), (17, (fun u => u = Value.string zy), (fun _ _ => True)), (18, (fun u => u = Value.bool true), (fun _ _ => True)), (19, (fun u => u = Value.bool true), (fun _ _ => True))] ?_
              refine Flow3.op _ 10 (some 89) (Op.buildSlice 50 0 #[]) 50 (some (9, true)) [] _ _ rfl (by kernel_rfl) (by kernel_rfl) (by kernel_rfl) (by rfl) ⟨_, 0, rfl⟩ ?_ ?_ (by rfl) ?_ ?_
              · rintro v W W' hu ⟨q, hv, hq, hb⟩; exact ⟨q, hv, hq, blk_below hb hu⟩
              · intro hd; exact absurd hd (by decide)
              · rw [upOf_ne (by decide)]; intro W hW hK; exact .inl ⟨_, _, ⟨_, rfl⟩, HJA.out _ _ hW, below_alloc (Below.refl _ _) _, ⟨_, rfl, (HJD.out _ hW).size, blk_new W _⟩, exec_build⟩
              rintro v0 ⟨q0, rfl⟩
              try simp only [Act.put, List.setIfInBounds_toArray, List.set_cons_zero, List.set_cons_succ]
              refine Flow3.val _ 11 (some 90) (Op.move (Operand.tmp 0)) 50 (some (9, true)) [] _ rfl (by kernel_rfl) (by kernel_rfl) (by kernel_rfl) (by rfl) (by rfl) ?_ ?_ HRF.out (fun _ => trivial)
              · (intro W hW hK; go_simp; first | done | with_reducible rfl)
              try simp only [Act.put, List.setIfInBounds_toArray, List.set_cons_zero, List.set_cons_succ]
              refine Flow3.op _ 12 (some 91) (Op.call { callee := Callee.builtin Builtin.append, args := #[Operand.tmp 89, Operand.tmp 90], argTypes := #[50, 50] }) 50 (some (9, true)) [10] _ _ rfl (by kernel_rfl) (by kernel_rfl) (by kernel_rfl) (by rfl) ⟨undef, trivial⟩ ?_ ?_ (by rfl) ?_ ?_
              · intro v W W' hu hr; exact Kd.R_below hr hu
              · intro hd; exact absurd hd (by decide)
              · rw [upOf_ne (by decide)]
                intro W hW hK
                have h0 := hK 10 (by simp)
                simp [updK] at h0
                obtain ⟨hq, hb⟩ := h0
                obtain ⟨v1, W1, hr, hR, hB⟩ := append_empty W wr.heap.size 50 q0 b A0 c0 hb hq (HJD.out _ hW).size (HCB.out _ hW) (by have := HLN.out.1; omega)
                exact .inl ⟨v1, W1, trivial, HJB.out _ _ hW hB, hB, hR, exec_append (by rfl) (by rfl) hr⟩
              intro v2 _
              try simp only [Act.put, List.setIfInBounds_toArray, List.set_cons_zero, List.set_cons_succ]
              refine Flow3.val _ 13 (some 92) (Op.move (Operand.tmp 2)) 41 (some (9, true)) [] _ rfl (by kernel_rfl) (by kernel_rfl) (by kernel_rfl) (by rfl) (by rfl) ?_ ?_ HRF.out (fun _ => trivial)
              · (intro W hW hK; go_simp; first | done | with_reducible rfl)
              try simp only [Act.put, List.setIfInBounds_toArray, List.set_cons_zero, List.set_cons_succ]
              refine Flow3.op _ 14 (some 93) (Op.call { callee := Callee.value (Operand.func 36), args := #[Operand.tmp 91, Operand.tmp 92], argTypes := #[50, 41] }) 50 (some (9, true)) [12] _ _ rfl (by kernel_rfl) (by kernel_rfl) (by kernel_rfl) (by rfl) ⟨undef, trivial⟩ ?_ ?_ (by rfl) ?_ ?_
              · intro v W W' hu hr; exact Kd.R_below hr hu
              · intro _ hd; exact absurd rfl hd
              · rw [upOf_eq]
                intro W hW hK
                have h0 := hK 12 (by simp)
                simp [updK] at h0
                refine .inr ⟨36, #[v2, Value.slice A2 m.length c2], by (go_simp; first | done | with_reducible rfl), ?_⟩
                refine (HSig.out W v2 hW h0).mono ?_
                rintro e w' ⟨v1, rfl, hJ, hR⟩
                exact ⟨v1, rfl, trivial, hJ, trivial, hR⟩
              intro v4 _
              try simp only [Act.put, List.setIfInBounds_toArray, List.set_cons_zero, List.set_cons_succ]
              refine Flow3.val _ 15 (some 94) (Op.convert 50 9 (Operand.tmp 93)) 9 (some (9, true)) [14] _ rfl (by kernel_rfl) (by kernel_rfl) (by kernel_rfl) (by rfl) (by rfl) ?_ ?_ HRF.out (fun _ => trivial)
              · (intro W hW hK; have h0 := hK 14 (by simp); simp [updK] at h0; obtain ⟨A4, k4, rfl, _, hC4⟩ := Kd.R_reads h0; have hcv := HCV.out W A4 k4 by_ hC4; rw [← Hzy.out] at hcv; go_simp; first | done | with_reducible rfl)
              try simp only [Act.put, List.setIfInBounds_toArray, List.set_cons_zero, List.set_cons_succ]
              refine Flow3.val _ 16 (some 95) (Op.move (Operand.tmp 10)) 50 (some (9, true)) [] _ rfl (by kernel_rfl) (by kernel_rfl) (by kernel_rfl) (by rfl) (by rfl) ?_ ?_ HRF.out (fun _ => trivial)
              · (intro W hW hK; go_simp; first | done | with_reducible rfl)
              try simp only [Act.put, List.setIfInBounds_toArray, List.set_cons_zero, List.set_cons_succ]
              refine Flow3.val _ 17 (some 96) (Op.convert 50 9 (Operand.tmp 95)) 9 (some (9, true)) [] _ rfl (by kernel_rfl) (by kernel_rfl) (by kernel_rfl) (by rfl) (by rfl) ?_ ?_ HRF.out (fun _ => trivial)
              · (intro W hW hK; have hcv := HCV.out W AY cY by_ (HCy.out W hW); rw [← Hzy.out] at hcv; go_simp; first | done | with_reducible rfl)
              try simp only [Act.put, List.setIfInBounds_toArray, List.set_cons_zero, List.set_cons_succ]
              refine Flow3.val _ 18 (some 97) (Op.binOp BinOp.eql 9 (Operand.tmp 94) (Operand.tmp 96) 9) 4 (some (9, true)) [] _ rfl (by kernel_rfl) (by kernel_rfl) (by kernel_rfl) (by rfl) (by rfl) ?_ ?_ HRF.out (fun _ => trivial)
              · (intro W hW hK; go_simp; first | done | with_reducible rfl)
              try simp only [Act.put, List.setIfInBounds_toArray, List.set_cons_zero, List.set_cons_succ]
              refine Flow3.val _ 19 (some 98) (Op.pick (Operand.tmp 88) (Operand.tmp 97) (Operand.const (Value.bool false))) 4 (none) [] _ rfl (by kernel_rfl) (by kernel_rfl) (by kernel_rfl) (by rfl) (by rfl) ?_ ?_ HRF.out (fun _ => trivial)
              · (intro W hW hK; go_simp; first | done | with_reducible rfl)
              try simp only [Act.put, List.setIfInBounds_toArray, List.set_cons_zero, List.set_cons_succ]
              refine Flow3.part _ 20 (some 99) (Op.move (Operand.tmp 98)) 4 (none) (.bool true) rfl 12 (by kernel_rfl) (by kernel_rfl) (by rfl) ?_ ?_
              · (intro W hW; go_simp; first | done | with_reducible rfl)
              try simp only [Act.put, List.setIfInBounds_toArray, List.set_cons_zero, List.set_cons_succ]
              intro W hW _
              skip
              refine wpAny_flow3 (by kernel_rfl) Jnv (fun W W' => Below W.heap.size W W') (fun _ _ => True) 25 (fun k => k == 21 || k == 23) HRF.out (fun _ => trivial) hW (by kernel_rfl) [(21, (fun v => ∃ g : Nat, v = Value.slice (some ⟨g, 0, none⟩) 0 0), (fun v W => ∃ g : Nat, v = Value.slice (some ⟨g, 0, none⟩) 0 0 ∧ wr.heap.size ≤ g ∧ W.heap[g]? = some (Obj.cells #[] 5 (0, 0)))), (22, (fun u => u = Value.slice A0 b.length c0), (fun _ _ => True)), (23, (fun _ => True), (fun v W => Kd.R (Kd.int .u8) 5 W wr.heap.size (fun _ => True) v b)), (24, (fun u => u = Value.slice A3 s.length c3), (fun _ _ => True)), (25, (fun _ => True), (fun v W => Kd.R (Kd.int .u8) 5 W wr.heap.size (fun _ => True) v bz)), (26, (fun u => u = Value.string zz), (fun _ _ => True)), (27, (fun u => u = Value.slice AZ bz.length cZ), (fun _ _ => True)), (28, (fun u => u = Value.string zz), (fun _ _ => True)), (29, (fun u => u = Value.bool true), (fun _ _ => True)), (30, (fun u => u = Value.bool true), (fun _ _ => True))] ?_
              refine Flow3.op _ 21 (some 100) (Op.buildSlice 50 0 #[]) 50 (some (20, true)) [] _ _ rfl (by kernel_rfl) (by kernel_rfl) (by kernel_rfl) (by rfl) ⟨_, 0, rfl⟩ ?_ ?_ (by rfl) ?_ ?_
              · rintro v W W' hu ⟨q, hv, hq, hb⟩; exact ⟨q, hv, hq, blk_below hb hu⟩
              · intro hd; exact absurd hd (by decide)
              · rw [upOf_ne (by decide)]; intro W hW hK; exact .inl ⟨_, _, ⟨_, rfl⟩, HJA.out _ _ hW, below_alloc (Below.refl _ _) _, ⟨_, rfl, (HJD.out _ hW).size, blk_new W _⟩, exec_build⟩
              rintro v0 ⟨q0, rfl⟩
              try simp only [Act.put, List.setIfInBounds_toArray, List.set_cons_zero, List.set_cons_succ]
              refine Flow3.val _ 22 (some 101) (Op.move (Operand.tmp 0)) 50 (some (20, true)) [] _ rfl (by kernel_rfl) (by kernel_rfl) (by kernel_rfl) (by rfl) (by rfl) ?_ ?_ HRF.out (fun _ => trivial)
              · (intro W hW hK; go_simp; first | done | with_reducible rfl)
              try simp only [Act.put, List.setIfInBounds_toArray, List.set_cons_zero, List.set_cons_succ]
              refine Flow3.op _ 23 (some 102) (Op.call { callee := Callee.builtin Builtin.append, args := #[Operand.tmp 100, Operand.tmp 101], argTypes := #[50, 50] }) 50 (some (20, true)) [21] _ _ rfl (by kernel_rfl) (by kernel_rfl) (by kernel_rfl) (by rfl) ⟨undef, trivial⟩ ?_ ?_ (by rfl) ?_ ?_
              · intro v W W' hu hr; exact Kd.R_below hr hu
              · intro hd; exact absurd hd (by decide)
              · rw [upOf_ne (by decide)]
                intro W hW hK
                have h0 := hK 21 (by simp)
                simp [updK] at h0
                obtain ⟨hq, hb⟩ := h0
                obtain ⟨v1, W1, hr, hR, hB⟩ := append_empty W wr.heap.size 50 q0 b A0 c0 hb hq (HJD.out _ hW).size (HCB.out _ hW) (by have := HLN.out.1; omega)
                exact .inl ⟨v1, W1, trivial, HJB.out _ _ hW hB, hB, hR, exec_append (by rfl) (by rfl) hr⟩
              intro v2 _
              try simp only [Act.put, List.setIfInBounds_toArray, List.set_cons_zero, List.set_cons_succ]
              refine Flow3.val _ 24 (some 103) (Op.move (Operand.tmp 3)) 66 (some (20, true)) [] _ rfl (by kernel_rfl) (by kernel_rfl) (by kernel_rfl) (by rfl) (by rfl) ?_ ?_ HRF.out (fun _ => trivial)
              · (intro W hW hK; go_simp; first | done | with_reducible rfl)
              try simp only [Act.put, List.setIfInBounds_toArray, List.set_cons_zero, List.set_cons_succ]
              refine Flow3.op _ 25 (some 104) (Op.call { callee := Callee.value (Operand.func 42), args := #[Operand.tmp 102, Operand.tmp 103], argTypes := #[50, 66] }) 50 (some (20, true)) [23] _ _ rfl (by kernel_rfl) (by kernel_rfl) (by kernel_rfl) (by rfl) ⟨undef, trivial⟩ ?_ ?_ (by rfl) ?_ ?_
              · intro v W W' hu hr; exact Kd.R_below hr hu
              · intro _ hd; exact absurd rfl hd
              · rw [upOf_eq]
                intro W hW hK
                have h0 := hK 23 (by simp)
                simp [updK] at h0
                refine .inr ⟨42, #[v2, Value.slice A3 s.length c3], by (go_simp; first | done | with_reducible rfl), ?_⟩
                refine (HTxt.out W v2 hW h0).mono ?_
                rintro e w' ⟨v1, rfl, hJ, hR⟩
                exact ⟨v1, rfl, trivial, hJ, trivial, hR⟩
              intro v4 _
              try simp only [Act.put, List.setIfInBounds_toArray, List.set_cons_zero, List.set_cons_succ]
              refine Flow3.val _ 26 (some 105) (Op.convert 50 9 (Operand.tmp 104)) 9 (some (20, true)) [25] _ rfl (by kernel_rfl) (by kernel_rfl) (by kernel_rfl) (by rfl) (by rfl) ?_ ?_ HRF.out (fun _ => trivial)
              · (intro W hW hK; have h0 := hK 25 (by simp); simp [updK] at h0; obtain ⟨A4, k4, rfl, _, hC4⟩ := Kd.R_reads h0; have hcv := HCV.out W A4 k4 bz hC4; rw [← Hzz.out] at hcv; go_simp; first | done | with_reducible rfl)
              try simp only [Act.put, List.setIfInBounds_toArray, List.set_cons_zero, List.set_cons_succ]
              refine Flow3.val _ 27 (some 106) (Op.move (Operand.tmp 11)) 50 (some (20, true)) [] _ rfl (by kernel_rfl) (by kernel_rfl) (by kernel_rfl) (by rfl) (by rfl) ?_ ?_ HRF.out (fun _ => trivial)
              · (intro W hW hK; go_simp; first | done | with_reducible rfl)
              try simp only [Act.put, List.setIfInBounds_toArray, List.set_cons_zero, List.set_cons_succ]
              refine Flow3.val _ 28 (some 107) (Op.convert 50 9 (Operand.tmp 106)) 9 (some (20, true)) [] _ rfl (by kernel_rfl) (by kernel_rfl) (by kernel_rfl) (by rfl) (by rfl) ?_ ?_ HRF.out (fun _ => trivial)
              · (intro W hW hK; have hcv := HCV.out W AZ cZ bz (HCz.out W hW); rw [← Hzz.out] at hcv; go_simp; first | done | with_reducible rfl)
              try simp only [Act.put, List.setIfInBounds_toArray, List.set_cons_zero, List.set_cons_succ]
              refine Flow3.val _ 29 (some 108) (Op.binOp BinOp.eql 9 (Operand.tmp 105) (Operand.tmp 107) 9) 4 (some (20, true)) [] _ rfl (by kernel_rfl) (by kernel_rfl) (by kernel_rfl) (by rfl) (by rfl) ?_ ?_ HRF.out (fun _ => trivial)
              · (intro W hW hK; go_simp; first | done | with_reducible rfl)
              try simp only [Act.put, List.setIfInBounds_toArray, List.set_cons_zero, List.set_cons_succ]
              refine Flow3.val _ 30 (some 109) (Op.pick (Operand.tmp 99) (Operand.tmp 108) (Operand.const (Value.bool false))) 4 (none) [] _ rfl (by kernel_rfl) (by kernel_rfl) (by kernel_rfl) (by rfl) (by rfl) ?_ ?_ HRF.out (fun _ => trivial)
              · (intro W hW hK; go_simp; first | done | with_reducible rfl)
              try simp only [Act.put, List.setIfInBounds_toArray, List.set_cons_zero, List.set_cons_succ]
              refine Flow3.part _ 31 (some 110) (Op.move (Operand.tmp 109)) 4 (none) (.bool true) rfl 12 (by kernel_rfl) (by kernel_rfl) (by rfl) ?_ ?_
              · (intro W hW; go_simp; first | done | with_reducible rfl)
              try simp only [Act.put, List.setIfInBounds_toArray, List.set_cons_zero, List.set_cons_succ]
              intro W hW _
              skip
              have hcrb : Bytes b := HB.out
              have hcrx : Bytes bx := by
                rw [HBX.out]
                refine bytes_app HB.out fun x hx => ?_
                obtain ⟨y, hy, hx⟩ := List.mem_flatMap.1 hx
                have := List.all_eq_true.1 (dig_byte y (HL.out y hy).1) x hx
                simpa [byteB] using this
              obtain ⟨cr, hcr⟩ : ∃ q, q = crc (b ++ bx) := ⟨_, rfl⟩
              have HMark : Aside0 (∀ (W : World) (g : Nat), Jnv W → W.heap[g]? = some (.cells #[.slice A0 b.length c0, .slice AX bx.length cX] 50 (0, 0)) → Calls Try.prog 37 #[.slice (some ⟨g, 0, none⟩) 2 2] W fun e w' => e = .returned (.int .u32 cr) ∧ Jnv w' ∧ Below W.heap.size W w') := ⟨fun W g hW hg => by
                refine (quill_Mark.calls (some ⟨g, 0, none⟩) 2 [b, bx] cr W (rows2w (HCB.out _ hW) C0.out (HCx.out _ hW) HCX.out.1 hg) (Nat.le_refl 2) (by
                  unfold quill_Mark.f
                  rw [if_pos (by simp [bytesB_of hcrb, bytesB_of hcrx]), hcr]; simp)).mono ?_
                rintro e w' ⟨he, hd⟩
                exact ⟨he, HJB.out _ _ hW hd.below, hd.below⟩⟩
              have HCrc : Aside0 (∀ (W : World) (A : Option Addr) (c : Nat), Jnv W → Kd.C (Kd.int .u8) W A (b ++ bx).length (b ++ bx) → (b ++ bx).length ≤ c → Calls Try.prog 43 #[.slice A (b ++ bx).length c] W fun e w' => e = .returned (.int .u32 cr) ∧ Jnv w' ∧ Below W.heap.size W w') := ⟨fun W A c hW hC hc => by
                obtain ⟨k, hk⟩ := Ev.at_ (rcrc_ev (b ++ bx) (bytes_app hcrb hcrx) (by
                  have h1 := HLN.out; have h2 := flat_len dig 10 dig_len l
                  rw [List.length_append, HBX.out, List.length_append]; omega))
                refine (klaxonref01_Crc.calls k A c (b ++ bx) cr W hC hc (by rw [hcr]; exact hk)).mono ?_
                rintro e w' ⟨he, hd⟩
                exact ⟨he, HJB.out _ _ hW hd.below, hd.below⟩⟩
              have HLV : Aside0 (∀ W : World, Jnv W → Calls Try.prog 28 #[] W fun e w' => e = .returned (.bool true) ∧ Jnv w' ∧ Below W.heap.size W w') := ⟨fun W hW => by
                refine (live1_calls W).mono ?_
                rintro e w' ⟨he, hb⟩
                exact ⟨he, HJB.out _ _ hW hb, hb⟩⟩
              have HLX : Aside0 (bx.length ≤ 30000) := ⟨by have h1 := HLN.out; have h2 := flat_len dig 10 dig_len l; rw [HBX.out, List.length_append]; omega⟩
              clear hcrb hcrx hcr
              obtain ⟨UN, hUN⟩ : ∃ U : World → World → Prop, U = fun W W' => ∀ (k : Nat) (cs : Array Value) (t : TypeId), t ≠ 5 → W.heap[k]? = some (Obj.cells cs t (0, 0)) → W'.heap[k]? = some (Obj.cells cs t (0, 0)) := ⟨_, rfl⟩
              have HUN : Aside0 (∀ W W', UN W W' ↔ ∀ (k : Nat) (cs : Array Value) (t : TypeId), t ≠ 5 → W.heap[k]? = some (Obj.cells cs t (0, 0)) → W'.heap[k]? = some (Obj.cells cs t (0, 0))) := ⟨fun W W' => by rw [hUN]⟩
              have HUR : Aside0 (∀ W, UN W W) := ⟨fun W => (HUN.out W W).2 fun _ _ _ _ h => h⟩
              clear hUN
              refine wpAny_flow3 (by kernel_rfl) Jnv (fun W W' => Below W.heap.size W W') UN 40 (fun k => k == 36 || k == 38) HRF.out HUR.out hW (by kernel_rfl) [(32, (fun u => u = Value.slice A0 b.length c0), (fun _ _ => True)), (33, (fun u => u = Value.slice AX bx.length cX), (fun _ _ => True)), (34, (fun v => ∃ g : Nat, v = Value.slice (some ⟨g, 0, none⟩) 2 2), (fun v W => ∃ g : Nat, v = Value.slice (some ⟨g, 0, none⟩) 2 2 ∧ W.heap[g]? = some (Obj.cells #[Value.slice A0 b.length c0, Value.slice AX bx.length cX] 50 (0, 0)))), (35, (fun u => u = Value.int .u32 cr), (fun _ _ => True)), (36, (fun v => ∃ g : Nat, v = Value.slice (some ⟨g, 0, none⟩) 0 0), (fun v W => ∃ g : Nat, v = Value.slice (some ⟨g, 0, none⟩) 0 0 ∧ wr.heap.size ≤ g ∧ W.heap[g]? = some (Obj.cells #[] 5 (0, 0)))), (37, (fun u => u = Value.slice A0 b.length c0), (fun _ _ => True)), (38, (fun _ => True), (fun v W => Kd.R (Kd.int .u8) 5 W wr.heap.size (fun _ => True) v b)), (39, (fun u => u = Value.slice AX bx.length cX), (fun _ _ => True)), (40, (fun _ => True), (fun v W => Kd.R (Kd.int .u8) 5 W wr.heap.size (fun _ => True) v (b ++ bx))), (41, (fun u => u = Value.int .u32 cr), (fun _ _ => True)), (42, (fun u => u = Value.bool true), (fun _ _ => True)), (43, (fun u => u = Value.bool true), (fun _ _ => True))] ?_
              refine Flow3.val _ 32 (some 111) (Op.move (Operand.tmp 0)) 50 (some (31, true)) [] _ rfl (by kernel_rfl) (by kernel_rfl) (by kernel_rfl) (by rfl) (by rfl) ?_ ?_ HRF.out HUR.out
              · (intro W hW hK; go_simp; first | done | with_reducible rfl)
              try simp only [Act.put, List.setIfInBounds_toArray, List.set_cons_zero, List.set_cons_succ]
              refine Flow3.val _ 33 (some 112) (Op.move (Operand.tmp 9)) 50 (some (31, true)) [] _ rfl (by kernel_rfl) (by kernel_rfl) (by kernel_rfl) (by rfl) (by rfl) ?_ ?_ HRF.out HUR.out
              · (intro W hW hK; go_simp; first | done | with_reducible rfl)
              try simp only [Act.put, List.setIfInBounds_toArray, List.set_cons_zero, List.set_cons_succ]
              refine Flow3.op _ 34 (some 113) (Op.buildSlice 94 2 #[(0, Operand.tmp 111), (1, Operand.tmp 112)]) 94 (some (31, true)) [] _ _ rfl (by kernel_rfl) (by kernel_rfl) (by kernel_rfl) (by rfl) ⟨_, 0, rfl⟩ ?_ ?_ (by rfl) ?_ ?_
              · rintro v W W' hu ⟨q, hv, hb⟩; exact ⟨q, hv, blk_below hb hu⟩
              · rintro _ _ v W W' hu ⟨q, hv, hb⟩; exact ⟨q, hv, (HUN.out _ _).1 hu _ _ _ (by decide) hb⟩
              · rw [upOf_ne (by decide)]
                intro W hW hK
                refine .inl ⟨.slice (some ⟨W.heap.size, 0, none⟩) 2 2, W.alloc (.cells #[Value.slice A0 b.length c0, Value.slice AX bx.length cX] 50), ⟨_, rfl⟩, HJA.out _ _ hW, below_alloc (Below.refl _ _) _, ⟨_, rfl, blk_new W _⟩, ?_⟩
                go_simp
                first | done | with_reducible rfl
              rintro v34 ⟨q34, rfl⟩
              try simp only [Act.put, List.setIfInBounds_toArray, List.set_cons_zero, List.set_cons_succ]
              refine Flow3.op _ 35 (some 114) (Op.call { callee := Callee.value (Operand.func 37), args := #[Operand.tmp 113], argTypes := #[94] }) 62 (some (31, true)) [34] _ _ rfl (by kernel_rfl) (by kernel_rfl) (by kernel_rfl) (by rfl) ⟨_, rfl⟩ (fun _ _ _ _ h => h) (fun _ _ _ _ _ _ h => h) (by rfl) ?_ ?_
              · rw [upOf_ne (by decide)]
                intro W hW hK
                have h0 := hK 34 (by simp)
                simp [updK] at h0
                refine .inr ⟨37, #[.slice (some ⟨q34, 0, none⟩) 2 2], by (go_simp; first | done | with_reducible rfl), ?_⟩
                refine (HMark.out W q34 hW h0).mono ?_
                rintro e w' ⟨he, hJ, hB⟩
                exact ⟨_, he, rfl, hJ, hB, trivial⟩
              intro v35 hv35
              subst hv35
              try simp only [Act.put, List.setIfInBounds_toArray, List.set_cons_zero, List.set_cons_succ]
              refine Flow3.op _ 36 (some 115) (Op.buildSlice 50 0 #[]) 50 (some (31, true)) [] _ _ rfl (by kernel_rfl) (by kernel_rfl) (by kernel_rfl) (by rfl) ⟨_, 0, rfl⟩ ?_ ?_ (by rfl) ?_ ?_
              · rintro v W W' hu ⟨q, hv, hq, hb⟩; exact ⟨q, hv, hq, blk_below hb hu⟩
              · intro hd; exact absurd hd (by decide)
              · rw [upOf_ne (by decide)]; intro W hW hK; exact .inl ⟨_, _, ⟨_, rfl⟩, HJA.out _ _ hW, below_alloc (Below.refl _ _) _, ⟨_, rfl, (HJD.out _ hW).size, blk_new W _⟩, exec_build⟩
              rintro v0 ⟨q0, rfl⟩
              try simp only [Act.put, List.setIfInBounds_toArray, List.set_cons_zero, List.set_cons_succ]
              refine Flow3.val _ 37 (some 116) (Op.move (Operand.tmp 0)) 50 (some (31, true)) [] _ rfl (by kernel_rfl) (by kernel_rfl) (by kernel_rfl) (by rfl) (by rfl) ?_ ?_ HRF.out HUR.out
              · (intro W hW hK; go_simp; first | done | with_reducible rfl)
              try simp only [Act.put, List.setIfInBounds_toArray, List.set_cons_zero, List.set_cons_succ]
              refine Flow3.op _ 38 (some 117) (Op.call { callee := Callee.builtin Builtin.append, args := #[Operand.tmp 115, Operand.tmp 116], argTypes := #[50, 50] }) 50 (some (31, true)) [36] _ _ rfl (by kernel_rfl) (by kernel_rfl) (by kernel_rfl) (by rfl) ⟨undef, trivial⟩ ?_ ?_ (by rfl) ?_ ?_
              · intro v W W' hu hr; exact Kd.R_below hr hu
              · intro hd; exact absurd hd (by decide)
              · rw [upOf_ne (by decide)]
                intro W hW hK
                have h0 := hK 36 (by simp)
                simp [updK] at h0
                obtain ⟨hq, hb⟩ := h0
                obtain ⟨v1, W1, hr, hR, hB⟩ := append_empty W wr.heap.size 50 q0 b A0 c0 hb hq (HJD.out _ hW).size (HCB.out _ hW) (by have := HLN.out.1; omega)
                exact .inl ⟨v1, W1, trivial, HJB.out _ _ hW hB, hB, hR, exec_append (by rfl) (by rfl) hr⟩
              intro v2 _
              try simp only [Act.put, List.setIfInBounds_toArray, List.set_cons_zero, List.set_cons_succ]
              refine Flow3.val _ 39 (some 118) (Op.move (Operand.tmp 9)) 50 (some (31, true)) [] _ rfl (by kernel_rfl) (by kernel_rfl) (by kernel_rfl) (by rfl) (by rfl) ?_ ?_ HRF.out HUR.out
              · (intro W hW hK; go_simp; first | done | with_reducible rfl)
              try simp only [Act.put, List.setIfInBounds_toArray, List.set_cons_zero, List.set_cons_succ]
              refine Flow3.op _ 40 (some 119) (Op.call { callee := Callee.builtin Builtin.append, args := #[Operand.tmp 117, Operand.tmp 118], argTypes := #[50, 50] }) 50 (some (31, true)) [38] _ _ rfl (by kernel_rfl) (by kernel_rfl) (by kernel_rfl) (by rfl) ⟨undef, trivial⟩ ?_ ?_ (by rfl) ?_ ?_
              · intro v W W' hu hr; exact Kd.R_below hr hu
              · intro _ hd; exact absurd rfl hd
              · rw [upOf_eq]
                intro W hW hK
                have h0 := hK 38 (by simp)
                simp [updK] at h0
                obtain ⟨v1, W1, hr, hR, hG, _⟩ := append_run W wr.heap.size 50 v2 b bx AX cX h0 (HCx.out _ hW) (HJD.out _ hW).size (by have := HLN.out; have := HLX.out; omega)
                refine .inl ⟨v1, W1, trivial, HDJ.out _ ((HJD.out _ hW).grown hG (HJD.out _ hW).size fun k hk => (Kd.R_bound h0).1 k hk |>.2.1), (HUN.out _ _).2 fun k cs t ht hk => (hG.block k (blk_lt hk) (fun e => Kd.R_ne h0 hk (fun e => ht e.symm) e)).trans hk, hR, exec_append (by rfl) (by rfl) hr⟩
              intro v4 _
              try simp only [Act.put, List.setIfInBounds_toArray, List.set_cons_zero, List.set_cons_succ]
              refine Flow3.op _ 41 (some 120) (Op.call { callee := Callee.value (Operand.func 43), args := #[Operand.tmp 119], argTypes := #[50] }) 62 (some (31, true)) [40] _ _ rfl (by kernel_rfl) (by kernel_rfl) (by kernel_rfl) (by rfl) ⟨_, rfl⟩ (fun _ _ _ _ h => h) (fun _ _ _ _ _ _ h => h) (by rfl) ?_ ?_
              · rw [upOf_ne (by decide)]
                intro W hW hK
                have h0 := hK 40 (by simp)
                simp only [updK, if_true] at h0
                obtain ⟨A4, k4, hv4, hk4, hC4⟩ := Kd.R_reads h0
                subst hv4
                refine .inr ⟨43, #[.slice A4 (b ++ bx).length k4], by (go_simp; first | done | with_reducible rfl), ?_⟩
                refine (HCrc.out W A4 k4 hW hC4 hk4).mono ?_
                rintro e w' ⟨he, hJ, hB⟩
                exact ⟨_, he, rfl, hJ, hB, trivial⟩
              intro v41 hv41
              subst hv41
              try simp only [Act.put, List.setIfInBounds_toArray, List.set_cons_zero, List.set_cons_succ]
              refine Flow3.val _ 42 (some 121) (Op.binOp BinOp.eql 62 (Operand.tmp 114) (Operand.tmp 120) 62) 4 (some (31, true)) [] _ rfl (by kernel_rfl) (by kernel_rfl) (by kernel_rfl) (by rfl) (by rfl) ?_ ?_ HRF.out HUR.out
              · (intro W hW hK; go_simp; first | done | with_reducible rfl)
              try simp only [Act.put, List.setIfInBounds_toArray, List.set_cons_zero, List.set_cons_succ]
              refine Flow3.val _ 43 (some 122) (Op.pick (Operand.tmp 110) (Operand.tmp 121) (Operand.const (Value.bool false))) 4 (none) [] _ rfl (by kernel_rfl) (by kernel_rfl) (by kernel_rfl) (by rfl) (by rfl) ?_ ?_ HRF.out HUR.out
              · (intro W hW hK; go_simp; first | done | with_reducible rfl)
              try simp only [Act.put, List.setIfInBounds_toArray, List.set_cons_zero, List.set_cons_succ]
              refine Flow3.part _ 44 (some 123) (Op.move (Operand.tmp 122)) 4 (none) (.bool true) rfl 12 (by kernel_rfl) (by kernel_rfl) (by rfl) ?_ ?_
              · (intro W hW; go_simp; first | done | with_reducible rfl)
              try simp only [Act.put, List.setIfInBounds_toArray, List.set_cons_zero, List.set_cons_succ]
              intro W hW _
              refine wpAny_flow3 (by kernel_rfl) Jnv (fun W W' => Below W.heap.size W W') (fun W W' => Below W.heap.size W W') 99 (fun k => false) HRF.out HRF.out hW (by kernel_rfl) [(45, (fun u => u = Value.bool true), (fun _ _ => True)), (46, (fun u => u = Value.bool true), (fun _ _ => True)), (47, (fun u => u = Value.bool true), (fun _ _ => True))] ?_
              refine Flow3.op _ 45 (some 124) (Op.call { callee := Callee.value (Operand.func 28), args := #[], argTypes := #[] }) 4 (some (44, true)) [] _ _ rfl (by kernel_rfl) (by kernel_rfl) (by kernel_rfl) (by rfl) ⟨_, rfl⟩ (fun _ _ _ _ h => h) (fun _ _ _ _ _ _ h => h) (by rfl) ?_ ?_
              · rw [upOf_ne (by decide)]
                intro W hW hK
                refine .inr ⟨28, #[], by (go_simp; first | done | with_reducible rfl), ?_⟩
                refine (HLV.out W hW).mono ?_
                rintro e w' ⟨he, hJ, hB⟩
                exact ⟨_, he, rfl, hJ, hB, trivial⟩
              intro v45 hv45
              subst hv45
              try simp only [Act.put, List.setIfInBounds_toArray, List.set_cons_zero, List.set_cons_succ]
              refine Flow3.val _ 46 (some 125) (Op.pick (Operand.tmp 123) (Operand.tmp 124) (Operand.const (Value.bool false))) 4 (none) [] _ rfl (by kernel_rfl) (by kernel_rfl) (by kernel_rfl) (by rfl) (by rfl) ?_ ?_ HRF.out HRF.out
              · (intro W hW hK; go_simp; first | done | with_reducible rfl)
              try simp only [Act.put, List.setIfInBounds_toArray, List.set_cons_zero, List.set_cons_succ]
              refine Flow3.val _ 47 (some 8) (Op.assign (Operand.tmp 125)) 4 (none) [] _ rfl (by kernel_rfl) (by kernel_rfl) (by kernel_rfl) (by rfl) (by rfl) ?_ ?_ HRF.out HRF.out
              · (intro W hW hK; go_simp; first | done | with_reducible rfl)
              try simp only [Act.put, List.setIfInBounds_toArray, List.set_cons_zero, List.set_cons_succ]
              refine Flow3.done _ (by kernel_rfl) ?_
              intro W5 hW hK
              have HBF := Aside0.mk (below_step HBW.out (HJD.out _ hW))
              clear hK
              go_wp2_with fail
              go_ret
              exact ⟨rfl, HBF.out⟩
theorem puts_row (b l m : List Int) (s : List ByteArray) (A0 A1 A2 A3 : Option Addr) (c0 c1 c2 c3 : Nat) (W : World) (hr0 : Kd.C (Kd.int .u8) W A0 b.length b) (hc0 : b.length ≤ c0) (hr1 : Kd.C (Kd.int .u64) W A1 l.length l) (hc1 : l.length ≤ c1) (hr2 : Kd.C (Kd.int .i64) W A2 m.length m) (hc2 : m.length ≤ c2) (hr3 : Kd.C Kd.string W A3 s.length s) (hc3 : s.length ≤ c3)
    (w0 : b.length * 1 ≤ 140737488351232 ∧ ∀ y ∈ b, (Lit.int .u8 y).wf = true) (w1 : l.length * 8 ≤ 140737488351232 ∧ ∀ y ∈ l, (Lit.int .u64 y).wf = true) (w2 : m.length * 8 ≤ 140737488351232 ∧ ∀ y ∈ m, (Lit.int .i64 y).wf = true) (w3 : s.length * 16 ≤ 140737488351232 ∧ ∀ y ∈ s, y.size ≤ 140737488351232) :
    Calls Try.prog 10 #[.slice A0 b.length c0, .slice A1 l.length c1, .slice A2 m.length c2, .slice A3 s.length c3] W fun e w' => e = .returned (.bool true) ∧ Below W.heap.size W w' :=
  puts_walk b l m s A0 A1 A2 A3 c0 c1 c2 c3 W hr0 hc0 hr1 hc1 hr2 hc2 hr3 hc3
    (fun y hy => by have h := w0.2 y hy; simp [Lit.wf, IntKind.min, IntKind.max, IntKind.bits, IntKind.signed] at h; omega)
    (fun y hy => by have h := w1.2 y hy; simp [Lit.wf, IntKind.min, IntKind.max, IntKind.bits, IntKind.signed] at h; omega)
    (fun y hy => by have h := w2.2 y hy; simp [Lit.wf, IntKind.min, IntKind.max, IntKind.bits, IntKind.signed] at h; omega)
    w3.2 (by omega)
end Go.Proofs.YtmcnipjfigbkeaaK.QP
