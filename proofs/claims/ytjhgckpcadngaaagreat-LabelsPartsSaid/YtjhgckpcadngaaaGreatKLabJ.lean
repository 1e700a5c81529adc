/- Labels: labels.Key walked. -/
import Derived.Test.YtjhgckpcadngaaaGreatPLAx0
import Derived.Test.YtjhgckpcadngaaaGreatPLAx1
import Derived.Test.YtjhgckpcadngaaaGreatPLAx2
import Derived.Test.YtjhgckpcadngaaaGreatPLAx3
import Derived.Test.YtjhgckpcadngaaaGreatKFlow3
import Derived.Test.YtjhgckpcadngaaaGreatKFlow4
import Derived.Test.YtjhgckpcadngaaaGreatKJoin
import Derived.Test.YtjhgckpcadngaaaGreatKEv
import Derived.Test.YtjhgckpcadngaaaGreatKOpen
import Derived.Lib.SlBytesConst
import Derived.Lib.Bytes
import Derived.Deep.RegionWith
import Derived.Deep.QuietTactic
import Derived.Deep.RegionHeld3
import Derived.BigQuiet
import Derived.Outline
import Derived.Deep.WholeRow
import Derived.Lib.SliceRun
import Derived.Lib.LazyBuf
import Derived.Lib.ConvBytes
import Derived.Laws.CopyOwn
import Derived.Lib.Strings
import Derived.Lib.Slices
import Derived.Lib.Walk
import Derived.Lib.Bytealg
import Derived.Tactics
import Derived.Tactics2
import Derived.Defers
import Derived.Laws.Pointers
import Derived.Laws.LoneSync
import Derived.RegionTactic
import Derived.RegionCalls
import Derived.ChangeAlike
import Derived.Test.YtjhgckpcadngaaaGreatKLabA
import Derived.Test.YtjhgckpcadngaaaGreatKLabB
import Derived.Test.YtjhgckpcadngaaaGreatKLabC
import Derived.Test.YtjhgckpcadngaaaGreatKFrm
import Derived.Test.YtjhgckpcadngaaaGreatKSrt
import Derived.Test.YtjhgckpcadngaaaGreatKSrtN
import Derived.Test.YtjhgckpcadngaaaGreatKLabF
import Derived.Test.YtjhgckpcadngaaaGreatKLabG
import Derived.Test.YtjhgckpcadngaaaGreatKLabH
import Derived.Test.YtjhgckpcadngaaaGreatKLabI
import Derived.Test.YtjhgckpcadngaaaGreatKLabE
namespace Go.Proofs.YtjhgckpcadngaaaGreatK
open Go.RowKit Go.Proofs.YtjhgckpcadngaaaGreatW.PrintWords Go.Proofs.YtjhgckpcadngaaaGreatW.PrintLast Go.Proofs.YtjhgckpcadngaaaGreatW.PrintMore
open Go.Proofs.YtjhgckpcadngaaaGreat.PLA Go.Proofs.YtjhgckpcadngaaaGreat Go.Proofs.YtjhgckpcadngaaaGreatSrt
attribute [local go_sem] max2_int min2_int max_two min_two max_three min_three max_four min_four
set_option linter.unusedVariables false
set_option linter.unusedSimpArgs false
theorem append_runS (W : World) (base : Nat) (ty : TypeId) (v : Value) (xs ys : List ByteArray) (A : Option Addr) (c : Nat) (HO : Kd.R Kd.string 9 W base (fun _ => True) v xs) (HR : Kd.C Kd.string W A ys.length ys) (hbase : base ≤ W.heap.size) (hl : (xs.length + ys.length) * 16 ≤ 140737488355328) :
    ∃ v1 w1, (Builtin.append_ #[41, 41] ty #[v, .slice A ys.length c]).run Tryz.prog W = .ok v1 w1 ∧ Kd.R Kd.string 9 w1 base (fun _ => True) v1 (xs ++ ys) ∧ W.grownBy w1 v.ownBlock ∧ (v1.ownBlock = v.ownBlock ∨ ∃ b, v1.ownBlock = some b ∧ W.heap.size ≤ b) := by
  have h := Kd.R_append_rows_step (P := Tryz.prog) (ops := #[]) (o := { dst := some 0, op := .call { callee := .builtin .append, args := #[.tmp 0, .tmp 1], argTypes := #[41, 41] }, type := ty, pos := "", after := #[], guard := none }) (a := { tmps := #[v, .slice A ys.length c], defers := [] }) (Q := fun _ _ _ => False)
    (Kc := fun a' w1 => ∃ v1, a'.tmps[0]? = some v1 ∧ Kd.R Kd.string 9 w1 base (fun _ => True) v1 (xs ++ ys) ∧ W.grownBy w1 v.ownBlock ∧ (v1.ownBlock = v.ownBlock ∨ ∃ b, v1.ownBlock = some b ∧ W.heap.size ≤ b))
    Kd.string (Rr := fun (x : ByteArray) (c : List Value) => c = [.string x]) (w0 := W) base rfl (.tmp 0) (.tmp 1) 41 9 (.string ⟨#[]⟩) 16 rfl Tryz.underlying41 info9 rfl (by decide) (by decide) v xs ys A ys.length c (fun _ => True) (fun _ => False) rfl rfl HO HR (fun _ _ h => h) (fun _ hk => hk.elim) (fun _ _ => trivial) ((Below.refl _ _).mono hbase) hbase (by omega)
    (fun v1 w1 h1 h2 h3 h4 => ⟨v1, rfl, h1, h3, h4⟩)
  rw [if_pos (show Region.wanted _ _ = true from rfl)] at h
  unfold Oper.wp at h
  obtain ⟨a, ha⟩ : ∃ a : Act, a = { tmps := #[v, .slice A ys.length c], defers := [] } := ⟨_, rfl⟩
  have e0 : a.eval (.tmp 0) = v := by rw [ha]; rfl
  have e1 : a.eval (.tmp 1) = .slice A ys.length c := by rw [ha]; rfl
  have e2 : ∀ u : Value, (a.put (some 0) u).tmps[0]? = some u := fun u => by rw [ha]; rfl
  rw [← ha] at h
  clear ha
  cases hb : (Builtin.append_ #[41, 41] ty #[v, .slice A ys.length c]).run Tryz.prog W with
  | ok v1 w1 =>
    have he : ∀ o : Oper, o.op = .call { callee := .builtin .append, args := #[.tmp 0, .tmp 1], argTypes := #[41, 41] } → o.type = ty → (execOp a.eval o).run Tryz.prog W = .ok (.value v1) w1 := fun o h1 h2 => by
      simp [execOp, resolve, invoke, builtin, h1, h2, e0, e1, hb]
    rw [he _ rfl rfl, Oper.upon_value] at h
    obtain ⟨u, hu, h1, h2, h3⟩ := h
    obtain rfl : v1 = u := Option.some.inj ((e2 v1).symm.trans hu)
    exact ⟨_, _, rfl, h1, h2, h3⟩
  | halt hh w1 =>
    exfalso
    have he : ∀ o : Oper, o.op = .call { callee := .builtin .append, args := #[.tmp 0, .tmp 1], argTypes := #[41, 41] } → o.type = ty → (execOp a.eval o).run Tryz.prog W = .halt hh w1 := fun o h1 h2 => by
      simp [execOp, resolve, invoke, builtin, h1, h2, e0, e1, hb]
    rw [he _ rfl rfl] at h
    cases hh <;> simp [Oper.upon, LetsOut] at h
theorem append_nothing (W : World) (ty : TypeId) (g : Nat) (A : Option Addr) (c : Nat) : (Builtin.append_ #[41, 41] ty #[.slice (some ⟨g, 0, none⟩) 0 0, .slice A 0 c]).run Tryz.prog W = .ok (.slice (some ⟨g, 0, none⟩) 0 0) W := by
  obtain ⟨i, hi, hzz⟩ := Option.map_eq_some_iff.1 info9
  cases A <;> simp [Builtin.append_, run_underlying Tryz.underlying41, sizeOf, typeInfo, hi, storeCells, loadCellsFrom, Builtin.lenOf, Builtin.firstCells, loadCells]
theorem exec_appendS {ρ : Operand → Value} {s x : Nat} {ty : TypeId} {g : Option (Nat × Bool)} {v u v1 : Value} {w w1 : World} (hs : ρ (.tmp s) = v) (hx : ρ (.tmp x) = u) (h : (Builtin.append_ #[41, 41] ty #[v, u]).run Tryz.prog w = .ok v1 w1) :
    (execOp ρ (opOf (.call { callee := .builtin .append, args := #[.tmp s, .tmp x], argTypes := #[41, 41] }) ty g)).run Tryz.prog w = .ok (.value v1) w1 := by
  simp [execOp, resolve, invoke, builtin, opOf, hs, hx, h]
theorem exec_build1S {ρ : Operand → Value} {x : Nat} {s : ByteArray} {ty : TypeId} {g : Option (Nat × Bool)} {w : World} (hx : ρ (.tmp x) = .string s) :
    (execOp ρ (opOf (.buildSlice 41 1 #[(0, .tmp x)]) ty g)).run Tryz.prog w = .ok (.value (.slice (some ⟨w.heap.size, 0, none⟩) 1 1)) (w.alloc (.cells #[.string s] 9)) := by
  have h5 := Tryz.underlying41
  obtain ⟨i, hi, hzz⟩ := Option.map_eq_some_iff.1 info9
  simp only [Prod.mk.injEq] at hzz
  obtain ⟨hz, hsz, hby⟩ := hzz
  simp [execOp, opOf, Instr.buildSlice, go_sem, h5, hi, hz, hsz, newRow, hx, Value.cells]
theorem exec_build4S {ρ : Operand → Value} {ty : TypeId} {g : Option (Nat × Bool)} {w : World} (hc : ∀ v, ρ (.const v) = v) :
    (execOp ρ (opOf (.buildSlice 41 4 #[(0, .const (.string ⟨#[92]⟩)), (1, .const (.string ⟨#[92, 92]⟩)), (2, .const (.string ⟨#[34]⟩)), (3, .const (.string ⟨#[92, 34]⟩))]) ty g)).run Tryz.prog w = .ok (.value (.slice (some ⟨w.heap.size, 0, none⟩) 4 4)) (w.alloc (.cells #[.string ⟨#[92]⟩, .string ⟨#[92, 92]⟩, .string ⟨#[34]⟩, .string ⟨#[92, 34]⟩] 9)) := by
  have h5 := Tryz.underlying41
  obtain ⟨i, hi, hzz⟩ := Option.map_eq_some_iff.1 info9
  simp only [Prod.mk.injEq] at hzz
  obtain ⟨hz, hsz, hby⟩ := hzz
  simp [execOp, opOf, Instr.buildSlice, go_sem, h5, hi, hz, hsz, newRow, hc, Value.cells]
theorem row4 (W : World) : Kd.C Kd.string (W.alloc (.cells #[.string ⟨#[92]⟩, .string ⟨#[92, 92]⟩, .string ⟨#[34]⟩, .string ⟨#[92, 34]⟩] 9)) (some ⟨W.heap.size, 0, none⟩) 4 oldnew4 := by
  refine ⟨rfl, by decide, fun _ => ⟨_, rfl, fun j p hj => ?_⟩⟩
  have hjl := (List.getElem?_eq_some_iff.1 hj).1
  refine ⟨[.string p], rfl, rfl, fun i u hu => ?_⟩
  have hil := (List.getElem?_eq_some_iff.1 hu).1
  have hi0 : i = 0 := by simp at hil; omega
  subst hi0
  have hu2 : Value.string p = u := by simpa using hu
  subst hu2
  rw [add_plain, blk_cell (blk_new W _)]
  have hj4 : j = 0 ∨ j = 1 ∨ j = 2 ∨ j = 3 := by simp [oldnew4] at hjl; omega
  rcases hj4 with rfl | rfl | rfl | rfl <;> (simp [oldnew4] at hj; subst hj; rfl)
theorem row1 {W : World} {b : Nat} {s : ByteArray} (h : W.heap[b]? = some (.cells #[.string s] 9 (0, 0))) : Kd.C Kd.string W (some ⟨b, 0, none⟩) 1 [s] := by
  refine ⟨rfl, by decide, fun _ => ⟨_, rfl, fun j p hj => ?_⟩⟩
  have hjl := (List.getElem?_eq_some_iff.1 hj).1
  refine ⟨[.string p], rfl, rfl, fun i u hu => ?_⟩
  have hil := (List.getElem?_eq_some_iff.1 hu).1
  have hi0 : i = 0 := by simp at hil; omega
  have hj0 : j = 0 := by simp at hjl; omega
  subst hi0; subst hj0
  have hu2 : Value.string p = u := by simpa using hu
  subst hu2
  rw [add_plain, blk_cell h]
  simp at hj; subst hj; rfl
theorem esc_size (s : ByteArray) : (esc s).size ≤ 2 * s.size := by
  have h1 : (esc s).size = (escL s.data.toList).length := by rw [Lib.size_eq]; rfl
  rw [h1, escL_length, ← Lib.size_eq]
  have := cntE_le s.data.toList
  rw [← Lib.size_eq] at this
  omega
/-- What is no replacer stays. -/
def UpN93 (w w' : World) : Prop := ∀ (k : Nat) (o : Obj), w.heap[k]? = some o → (∀ cs fr, o ≠ Obj.cells cs 93 fr) → w'.heap[k]? = some o
theorem upN_of {w w' : World} {r : Nat} {cs : Array Value} {fr : Nat × Nat} (hf : Frm (fun k => k = r) w w') (h : w.heap[r]? = some (.cells cs 93 fr)) : UpN93 w w' := fun k o hk ho => hf.blk hk (fun e => by
  subst e
  rw [h] at hk
  exact ho _ _ (Option.some.inj hk).symm)
theorem frm_below {w0 W w' : World} {r : Nat} (hb : Below w0.heap.size w0 W) (hf : Frm (fun k => k = r) W w') (hr : w0.heap.size ≤ r) : Below w0.heap.size w0 w' :=
  ⟨hf.os.trans hb.os, hf.tape.trans hb.tape, hf.output.trans hb.output, Nat.le_trans hb.size hf.size, fun i hi => (hf.block i (Nat.lt_of_lt_of_le hi hb.size) (by show ¬ i = r; omega)).trans (hb.block i hi)⟩
theorem below_grown {B : Nat} {w0 W W' : World} (h : Below B w0 W) {row : Option Nat} (hg : W.grownBy W' row) (hr : ∀ k, row = some k → B ≤ k) (hB : B ≤ w0.heap.size := by exact Nat.le_refl _) : Below B w0 W' :=
  ⟨hg.os.trans h.os, hg.tape.trans h.tape, hg.output.trans h.output, Nat.le_trans h.size hg.size, fun i hi => (hg.block i (Nat.lt_of_lt_of_le (Nat.lt_of_lt_of_le hi hB) h.size) (fun e => by have := hr i e.symm; omega)).trans (h.block i hi)⟩
def keyPart (x : S47) : ByteArray := x.f0 ++ ⟨#[61, 34]⟩ ++ esc x.f1 ++ ⟨#[34]⟩
def keyParts (l : List S47) : List ByteArray := l.map keyPart
set_option maxHeartbeats 2000000 in
set_option maxRecDepth 100000 in
theorem keyloop_calls (A : Option Addr) (c : Nat) (l : List S47) (hl : l.length ≤ 1000) (hsz : ∀ x ∈ l, x.f0.size ≤ 1000000 ∧ x.f1.size ≤ 1000000) (res : ByteArray) (hres : res.size ≤ 1000000000) (w : World) (hr : Kd.C k47 w A l.length l)
    (hjoin : ∀ (W : World) (v : Value), Below w.heap.size w W → Kd.R Kd.string 9 W w.heap.size (fun _ => True) v (keyParts l) → Calls Tryz.prog 55 #[v, .string ⟨#[44]⟩] W fun e w' => e = .returned (.string res) ∧ Below W.heap.size W w') :
    Calls Tryz.prog 26 #[.slice A l.length c] w fun e w' => e = .returned (.string (⟨#[123]⟩ ++ res ++ ⟨#[125]⟩)) ∧ Below w.heap.size w w' := by
  have HR := Aside0.mk hr; have HJN := Aside0.mk hjoin; have HSZ := Aside0.mk hsz
  clear hr hjoin hsz
  go_enter Tryz.func26, Tryz.ntmps26
  go_wp2_with fail
  go_loopw [3, 5, 8] (fun x3 _ x8 wr => ∃ (k : Nat) (v : Value), k ≤ l.length ∧ x3 = v ∧ x8 = .int .i64 k ∧ Aside0 (Kd.R Kd.string 9 wr w.heap.size (fun _ => True) v (keyParts (l.take k))) ∧ Aside0 (Below w.heap.size w wr)) (fun _ _ x _ => l.length - (intOf x).toNat)
  case atStart => exact ⟨0, _, Nat.zero_le _, rfl, rfl, ⟨Kd.R_nil _ _ _ _ _⟩, ⟨Below.refl _ _⟩⟩
  case round =>
    obtain ⟨k, v, hk, rfl, rfl, HV, HB⟩ := hrel
    by_cases hlt : k < l.length
    · obtain ⟨ad, rfl, hc0, hc1⟩ := lab_get (Kd.C_below HR.out HB.out) hlt
      have HT : Aside0 (l.take (k + 1) = l.take k ++ [l[k]]) := ⟨List.take_succ_eq_append_getElem hlt⟩
      have HX1 : Aside0 (l[k].f1.size ≤ 1000000) := ⟨(HSZ.out l[k] (List.getElem_mem hlt)).2⟩
      have HX0 : Aside0 (l[k].f0.size ≤ 1000000) := ⟨(HSZ.out l[k] (List.getElem_mem hlt)).1⟩
      have HKP : Aside0 (keyPart l[k] = l[k].f0 ++ ⟨#[61, 34]⟩ ++ esc l[k].f1 ++ ⟨#[34]⟩) := ⟨rfl⟩
      obtain ⟨y, hy⟩ : ∃ y, y = l[k] := ⟨_, rfl⟩
      rw [← hy] at hc0 hc1 HT HX0 HX1 HKP
      obtain ⟨x0, x1⟩ := y
      have hki : (k : Int) < (l.length : Int) := by omega
      obtain ⟨ES, hES⟩ : ∃ e, e = esc x1 := ⟨_, rfl⟩
      have HES := Aside0.mk hES
      have hES2 : ES.size ≤ 2000000 := by rw [hES]; exact Nat.le_trans (esc_size x1) (by have := HX1.out; simp at this; omega)
      have hx02 : x0.size ≤ 1000000 := HX0.out
      have hs1 : x0.size ≤ 9223372036854775805 := by omega
      have hs2 : x0.size + 2 + ES.size ≤ 9223372036854775807 := by omega
      have hs3 : x0.size + 2 + ES.size ≤ 9223372036854775806 := by omega
      obtain ⟨W1, hW1⟩ : ∃ W, W = wr.alloc (.cells #[.string x0, .string x1] 47) := ⟨_, rfl⟩
      obtain ⟨bx, hbx⟩ : ∃ b, b = wr.heap.size := ⟨_, rfl⟩
      have hbk : W1.heap[bx]? = some (.cells #[.string x0, .string x1] 47 (0, 0)) := by rw [hW1, hbx]; exact blk_new wr _
      have HB1 : Aside0 (Below w.heap.size w W1) := ⟨by rw [hW1]; exact below_alloc HB.out _⟩
      have HV1 : Aside0 (Kd.R Kd.string 9 W1 w.heap.size (fun _ => True) u3 (keyParts (l.take k))) := ⟨by rw [hW1]; exact Kd.R_alloc HV.out _⟩
      have HW1 := Aside0.mk hW1; have HBX := Aside0.mk hbx; have HLT := Aside0.mk hlt
      obtain ⟨Jnv, hJnv⟩ : ∃ J : World → Prop, J = fun W' => Below W1.heap.size W1 W' := ⟨_, rfl⟩
      have HJD : Aside0 (∀ W', Jnv W' → Below W1.heap.size W1 W') := ⟨fun W' h => by rw [hJnv] at h; exact h⟩
      have HDJ : Aside0 (∀ W', Below W1.heap.size W1 W' → Jnv W') := ⟨fun W' h => by rw [hJnv]; exact h⟩
      have HJA : Aside0 (∀ W' o, Jnv W' → Jnv (W'.alloc o)) := ⟨fun W' o h => HDJ.out _ (below_alloc (HJD.out _ h) o)⟩
      have HRF : Aside0 (∀ W : World, Below W.heap.size W W) := ⟨fun W => Below.refl _ _⟩
      have HRN : Aside0 (∀ W : World, UpN93 W W) := ⟨fun W k o h _ => h⟩
      have SF : Aside0 (∀ W', Jnv W' → W'.cell? ⟨bx, 0, none⟩ = some (.string x0) ∧ W'.cell? ⟨bx, 1, none⟩ = some (.string x1)) := ⟨fun W' hW => by
        have hb := HJD.out W' hW
        have h1 : W1.cell? ⟨bx, 0, none⟩ = some (.string x0) := by rw [blk_cell hbk]; rfl
        have h2 : W1.cell? ⟨bx, 1, none⟩ = some (.string x1) := by rw [blk_cell hbk]; rfl
        exact ⟨pw_cell_below hb h1, pw_cell_below hb h2⟩⟩
      clear hJnv hbk hW1 hbx hlt hy hES
      go_upto_region 5 with (fail)
      rw [← HW1.out, ← HBX.out]
      refine wp_region_any (by kernel_rfl) ?_
      have hW : Jnv W1.drew := HDJ.out _ (below_drew (Below.refl _ _))
      refine wpAny_flow3 (by kernel_rfl) Jnv (fun W W' => Below W.heap.size W W') UpN93 8 (fun k => k == 4 || k == 5) HRF.out HRN.out hW (by kernel_rfl) [(0, (fun u => u = u3), (fun _ _ => True)), (1, (fun u => u = Value.pointer (some ⟨bx, 0, none⟩)), (fun _ _ => True)), (2, (fun u => u = Value.string x0), (fun _ _ => True)), (3, (fun u => u = Value.string (x0 ++ ⟨#[61, 34]⟩)), (fun _ _ => True)), (4, (fun u => ∃ q : Nat, u = Value.slice (some ⟨q, 0, none⟩) 4 4), (fun u W => ∃ q : Nat, u = Value.slice (some ⟨q, 0, none⟩) 4 4 ∧ Kd.C Kd.string W (some ⟨q, 0, none⟩) 4 oldnew4)), (5, (fun u => ∃ r : Nat, u = Value.pointer (some ⟨r, 0, none⟩)), (fun u W => ∃ r q cap : Nat, u = Value.pointer (some ⟨r, 0, none⟩) ∧ W1.heap.size ≤ r ∧ W.heap[r]? = some (.cells #[.int .u32 0, .int .i32 0, .int .u32 0, .nilIface, .slice (some ⟨q, 0, none⟩) 4 cap] 93 (0, 0)) ∧ Kd.C Kd.string W (some ⟨q, 0, none⟩) 4 oldnew4)), (6, (fun u => u = Value.pointer (some ⟨bx, 1, none⟩)), (fun _ _ => True)), (7, (fun u => u = Value.string x1), (fun _ _ => True)), (8, (fun u => u = Value.string ES), (fun _ _ => True)), (9, (fun u => u = Value.string (x0 ++ ⟨#[61, 34]⟩ ++ ES)), (fun _ _ => True)), (10, (fun u => u = Value.string (x0 ++ ⟨#[61, 34]⟩ ++ ES ++ ⟨#[34]⟩)), (fun _ _ => True)), (11, (fun u => ∃ b : Nat, u = Value.slice (some ⟨b, 0, none⟩) 1 1), (fun u W => ∃ b : Nat, u = Value.slice (some ⟨b, 0, none⟩) 1 1 ∧ W.heap[b]? = some (.cells #[.string (x0 ++ ⟨#[61, 34]⟩ ++ ES ++ ⟨#[34]⟩)] 9 (0, 0))))] ?_
      refine Flow3.val _ 0 (some 12) (Op.move (Operand.tmp 3)) 41 (none) [] _ rfl (by kernel_rfl) (by kernel_rfl) (by kernel_rfl) (by rfl) (by rfl) ?_ ?_ HRF.out HRN.out
      · (intro W hW hK; go_simp; first | done | with_reducible rfl)
      try simp only [Act.put, List.setIfInBounds_toArray, List.set_cons_zero, List.set_cons_succ]
      refine Flow3.val _ 1 (some 13) (Op.fieldAddr 47 (Operand.tmp 5) 0) 0 (none) [] _ rfl (by kernel_rfl) (by kernel_rfl) (by kernel_rfl) (by rfl) (by rfl) ?_ ?_ HRF.out HRN.out
      · (intro W hW hK; have hF := SF.out W hW; go_simp; first | done | with_reducible rfl)
      try simp only [Act.put, List.setIfInBounds_toArray, List.set_cons_zero, List.set_cons_succ]
      refine Flow3.val _ 2 (some 14) (Op.load 9 (Operand.tmp 13)) 9 (none) [] _ rfl (by kernel_rfl) (by kernel_rfl) (by kernel_rfl) (by rfl) (by rfl) ?_ ?_ HRF.out HRN.out
      · (intro W hW hK; have hF := SF.out W hW; go_simp; first | done | with_reducible rfl)
      try simp only [Act.put, List.setIfInBounds_toArray, List.set_cons_zero, List.set_cons_succ]
      refine Flow3.val _ 3 (some 15) (Op.binOp BinOp.add 9 (Operand.tmp 14) (Operand.const (Value.string { data := #[61, 34] })) 9) 9 (none) [] _ rfl (by kernel_rfl) (by kernel_rfl) (by kernel_rfl) (by rfl) (by rfl) ?_ ?_ HRF.out HRN.out
      · (intro W hW hK; go_simp; first | done | with_reducible rfl)
      try simp only [Act.put, List.setIfInBounds_toArray, List.set_cons_zero, List.set_cons_succ]
      refine Flow3.op _ 4 (some 16) (Op.buildSlice 41 4 #[(0, Operand.const (Value.string { data := #[92] })), (1, Operand.const (Value.string { data := #[92, 92] })), (2, Operand.const (Value.string { data := #[34] })), (3, Operand.const (Value.string { data := #[92, 34] }))]) 41 (none) [] _ _ rfl (by kernel_rfl) (by kernel_rfl) (by kernel_rfl) (by rfl) ⟨_, 0, rfl⟩ ?_ ?_ (by rfl) ?_ ?_
      · rintro u W W' hu ⟨q, hv, hq⟩; exact ⟨q, hv, Kd.C_below hq hu⟩
      · intro hd; exact absurd hd (by decide)
      · rw [upOf_ne (by decide)]; intro W hW hK; exact .inl ⟨_, _, ⟨_, rfl⟩, HJA.out _ _ hW, below_alloc (Below.refl _ _) _, ⟨_, rfl, row4 W⟩, exec_build4S (fun _ => rfl)⟩
      rintro u4 ⟨q4, rfl⟩
      try simp only [Act.put, List.setIfInBounds_toArray, List.set_cons_zero, List.set_cons_succ]
      refine Flow3.op _ 5 (some 17) (Op.call { callee := Callee.value (Operand.func 53), args := #[Operand.tmp 16], argTypes := #[41] }) 66 (none) [4] _ _ rfl (by kernel_rfl) (by kernel_rfl) (by kernel_rfl) (by rfl) ⟨_, 0, rfl⟩ ?_ ?_ (by rfl) ?_ ?_
      · rintro u W W' hu ⟨r, q, cap, hv, h1, h2, h3⟩; exact ⟨r, q, cap, hv, h1, blk_below h2 hu, Kd.C_below h3 hu⟩
      · intro hd; exact absurd hd (by decide)
      · rw [upOf_ne (by decide)]
        intro W hW hK
        have h0 := hK 4 (by simp)
        simp [updK] at h0
        refine .inr ⟨53, #[.slice (some ⟨q4, 0, none⟩) 4 4], by (go_simp; first | done | with_reducible rfl), ?_⟩
        refine (newrep_calls (some ⟨q4, 0, none⟩) 4 oldnew4 W h0 rfl).mono ?_
        rintro e w' ⟨r, q, cap, cur, rfl, h1, h2, h3, h4, h5, h6⟩
        exact ⟨_, rfl, ⟨r, rfl⟩, HDJ.out _ (below_step (HJD.out _ hW) h6), h6, ⟨r, q, cap, rfl, Nat.le_trans (HJD.out _ hW).size h2, h1, h5⟩⟩
      rintro u5 ⟨r5, rfl⟩
      try simp only [Act.put, List.setIfInBounds_toArray, List.set_cons_zero, List.set_cons_succ]
      refine Flow3.val _ 6 (some 18) (Op.fieldAddr 47 (Operand.tmp 5) 1) 0 (none) [] _ rfl (by kernel_rfl) (by kernel_rfl) (by kernel_rfl) (by rfl) (by rfl) ?_ ?_ HRF.out HRN.out
      · (intro W hW hK; have hF := SF.out W hW; go_simp; first | done | with_reducible rfl)
      try simp only [Act.put, List.setIfInBounds_toArray, List.set_cons_zero, List.set_cons_succ]
      refine Flow3.val _ 7 (some 19) (Op.load 9 (Operand.tmp 18)) 9 (none) [] _ rfl (by kernel_rfl) (by kernel_rfl) (by kernel_rfl) (by rfl) (by rfl) ?_ ?_ HRF.out HRN.out
      · (intro W hW hK; have hF := SF.out W hW; go_simp; first | done | with_reducible rfl)
      try simp only [Act.put, List.setIfInBounds_toArray, List.set_cons_zero, List.set_cons_succ]
      refine Flow3.op _ 8 (some 20) (Op.call { callee := Callee.value (Operand.func 54), args := #[Operand.tmp 17, Operand.tmp 19], argTypes := #[66, 9] }) 9 (none) [5] _ _ rfl (by kernel_rfl) (by kernel_rfl) (by kernel_rfl) (by rfl) ⟨_, rfl⟩ (fun _ _ _ _ h => h) (fun _ _ _ _ _ _ h => h) (by rfl) ?_ ?_
      · rw [upOf_eq]
        intro W hW hK
        have h0 := hK 5 (by simp)
        simp [updK] at h0
        obtain ⟨h1, q, ⟨cap, h2⟩, h3⟩ := h0
        refine .inr ⟨54, #[.pointer (some ⟨r5, 0, none⟩), .string x1], by (go_simp; first | done | with_reducible rfl), ?_⟩
        refine (replace_calls r5 q cap x1 (esc x1) W h2 h3 (fun W R b hb => repl_calls x1 HX1.out W R b hb)).mono ?_
        rintro e w' ⟨rfl, hf⟩
        refine ⟨_, rfl, by rw [HES.out], HDJ.out _ (frm_below (HJD.out _ hW) hf h1), ?_, trivial⟩
        exact upN_of hf h2
      rintro u8 rfl
      try simp only [Act.put, List.setIfInBounds_toArray, List.set_cons_zero, List.set_cons_succ]
      refine Flow3.val _ 9 (some 21) (Op.binOp BinOp.add 9 (Operand.tmp 15) (Operand.tmp 20) 9) 9 (none) [] _ rfl (by kernel_rfl) (by kernel_rfl) (by kernel_rfl) (by rfl) (by rfl) ?_ ?_ HRF.out HRN.out
      · (intro W hW hK; go_simp; first | done | with_reducible rfl)
      try simp only [Act.put, List.setIfInBounds_toArray, List.set_cons_zero, List.set_cons_succ]
      refine Flow3.val _ 10 (some 22) (Op.binOp BinOp.add 9 (Operand.tmp 21) (Operand.const (Value.string { data := #[34] })) 9) 9 (none) [] _ rfl (by kernel_rfl) (by kernel_rfl) (by kernel_rfl) (by rfl) (by rfl) ?_ ?_ HRF.out HRN.out
      · (intro W hW hK; go_simp; first | done | with_reducible rfl)
      try simp only [Act.put, List.setIfInBounds_toArray, List.set_cons_zero, List.set_cons_succ]
      refine Flow3.op _ 11 (some 23) (Op.buildSlice 41 1 #[(0, Operand.tmp 22)]) 41 (none) [] _ _ rfl (by kernel_rfl) (by kernel_rfl) (by kernel_rfl) (by rfl) ⟨_, 0, rfl⟩ ?_ ?_ (by rfl) ?_ ?_
      · rintro u W W' hu ⟨q, hv, hq⟩; exact ⟨q, hv, blk_below hq hu⟩
      · rintro hd hne u W W' hu ⟨q, hv, hq⟩; exact ⟨q, hv, hu _ _ hq (fun cs fr h => by simp at h)⟩
      · rw [upOf_ne (by decide)]; intro W hW hK; exact .inl ⟨_, _, ⟨_, rfl⟩, HJA.out _ _ hW, below_alloc (Below.refl _ _) _, ⟨_, rfl, blk_new W _⟩, exec_build1S (by rfl)⟩
      rintro u11 ⟨q11, rfl⟩
      try simp only [Act.put, List.setIfInBounds_toArray, List.set_cons_zero, List.set_cons_succ]
      refine Flow3.lastRun _ 12 (some 24) (Op.call { callee := Callee.builtin Builtin.append, args := #[Operand.tmp 12, Operand.tmp 23], argTypes := #[41, 41] }) 41 (none) rfl 12 (by kernel_rfl) (by kernel_rfl) (by rfl) ?_
      intro W hW hK
      have h11 := hK 11 (by decide) (fun h => absurd h (by decide))
      simp [updK] at h11
      obtain ⟨v1, w1, hrun, hR1, hG1, -⟩ := append_runS W w.heap.size 41 u3 (keyParts (l.take k)) [x0 ++ ⟨#[61, 34]⟩ ++ ES ++ ⟨#[34]⟩] (some ⟨q11, 0, none⟩) 1 (Kd.R_below HV1.out (HJD.out _ hW)) (row1 h11) (Nat.le_trans HB1.out.size (HJD.out _ hW).size) (by have := List.length_take_le k l; simp [keyParts]; omega)
      refine ⟨v1, w1, exec_appendS (by rfl) (by rfl) hrun, ?_⟩
      have HX : Aside0 (Kd.R Kd.string 9 w1 w.heap.size (fun _ => True) v1 (keyParts (l.take (k + 1)))) := ⟨by
        rw [HT.out]
        unfold keyParts
        rw [List.map_append]
        have := HKP.out
        rw [List.map_cons, List.map_nil, this, ← HES.out]
        exact hR1⟩
      have HBX1 : Aside0 (Below w.heap.size w w1) := ⟨below_grown (below_then HB1.out HB1.out.size (HJD.out _ hW)) hG1 (fun k hk => own_base HV1.out.2.choose_spec.1 k hk)⟩
      clear hrun hR1 hG1 h11 hK
      refine wpAny_flow3 (by kernel_rfl) (fun W => W = w1) (fun W W' => W' = W) (fun W W' => W' = W) 12 (fun _ => false) (fun _ => rfl) (fun _ => rfl) rfl (by kernel_rfl) [(13, (fun u => u = v1), (fun _ _ => True))] ?_
      try simp only [Act.put, List.setIfInBounds_toArray, List.set_cons_zero, List.set_cons_succ]
      refine Flow3.val _ 13 (some 3) (Op.assign (Operand.tmp 24)) 41 (none) [] _ rfl (by kernel_rfl) (by kernel_rfl) (by kernel_rfl) (by rfl) (by rfl) ?_ ?_ (fun _ => rfl) (fun _ => rfl)
      · (intro W hW hK; go_simp; first | done | with_reducible rfl)
      try simp only [Act.put, List.setIfInBounds_toArray, List.set_cons_zero, List.set_cons_succ]
      refine Flow3.done _ (by kernel_rfl) ?_
      rintro W5 rfl hK
      clear hK hW SF HJA HJD HDJ HRF HRN
      go_wp2_with fail
      go_roundw
      case rel => exact ⟨k + 1, v1, by have := HLT.out; omega, rfl, by go_num, HX, HBX1⟩
      case measure => (have := HLT.out; simp [intOf]; try omega)
    · obtain rfl : k = l.length := by omega
      have hs4 : res.size ≤ 9223372036854775806 := by omega
      have hs5 : 1 + res.size ≤ 9223372036854775806 := by omega
      have hs6 : 1 + res.size ≤ 9223372036854775807 := by omega
      have hkk : ¬ ((l.length : Int) < (l.length : Int)) := by omega
      have HV2 : Aside0 (Kd.R Kd.string 9 wr w.heap.size (fun _ => True) u3 (keyParts l)) := ⟨by have := HV.out; rwa [List.take_length] at this⟩
      go_wp2_with fail
      refine (HJN.out wr u3 HB.out HV2.out).mono ?_
      rintro e w2 ⟨rfl, hb2⟩
      have HB2 := Aside0.mk (below_then HB.out HB.out.size hb2)
      clear hb2
      go_wp2_with fail
      go_ret
      exact ⟨rfl, HB2.out⟩
theorem lens_le (M : Nat) : ∀ xs : List (List UInt8), (∀ x ∈ xs, x.length ≤ M) → Lib.lens xs ≤ xs.length * M
  | [], _ => by simp [Lib.lens]
  | x :: r, h => by
    have h1 := lens_le M r (fun y hy => h y (List.mem_cons_of_mem _ hy))
    have h2 := h x List.mem_cons_self
    unfold Lib.lens at *
    rw [List.map_cons, List.sum_cons, List.length_cons, Nat.add_mul]
    omega
def keyJ (l : List S47) : List UInt8 := Lib.join ((keyParts l).map (·.data.toList)) [44]
def keyS (l : List S47) : ByteArray := ⟨#[123]⟩ ++ ⟨(keyJ l).toArray⟩ ++ ⟨#[125]⟩
theorem keyPart_size (x : S47) (h0 : x.f0.size ≤ 1000) (h1 : x.f1.size ≤ 1000) : (keyPart x).size ≤ 3010 := by
  have := esc_size x.f1
  unfold keyPart
  simp only [ByteArray.size_append]
  have e1 : (⟨#[61, 34]⟩ : ByteArray).size = 2 := rfl
  have e2 : (⟨#[34]⟩ : ByteArray).size = 1 := rfl
  omega
theorem keyJ_length (l : List S47) (hl : l.length ≤ 1000) (hsz : ∀ x ∈ l, x.f0.size ≤ 1000 ∧ x.f1.size ≤ 1000) : (keyJ l).length ≤ 4000000 := by
  unfold keyJ keyParts
  cases l with
  | nil => simp [Lib.join_nil]
  | cons x r =>
    rw [List.map_cons, List.map_cons, Lib.join_length]
    have h1 := lens_le 3010 (((x :: r).map keyPart).map (·.data.toList)) (fun y hy => by
      rw [List.map_map] at hy
      obtain ⟨z, hz, rfl⟩ := List.mem_map.1 hy
      show (keyPart z).data.toList.length ≤ 3010
      rw [← Lib.size_eq]
      exact keyPart_size z (hsz z hz).1 (hsz z hz).2)
    simp only [List.length_map, List.map_cons, List.length_cons] at h1 hl ⊢
    have h2 : (r.length + 1) * 3010 ≤ 1000 * 3010 := Nat.mul_le_mul_right _ hl
    simp only [List.length_nil]
    omega
set_option maxHeartbeats 1000000 in
theorem key_calls (A : Option Addr) (c : Nat) (l : List S47) (hl : l.length ≤ 1000) (hsz : ∀ x ∈ l, x.f0.size ≤ 1000 ∧ x.f1.size ≤ 1000) (w : World) (hr : Kd.C k47 w A l.length l) :
    Calls Tryz.prog 26 #[.slice A l.length c] w fun e w' => e = .returned (.string (keyS l)) ∧ Below w.heap.size w w' := by
  have hJ := keyJ_length l hl hsz
  refine keyloop_calls A c l hl (fun x hx => ⟨by have := (hsz x hx).1; omega, by have := (hsz x hx).2; omega⟩) ⟨(keyJ l).toArray⟩ (by rw [Lib.size_eq]; simp only [List.toList_toArray]; omega) w hr ?_
  intro W v hb hv
  rcases Nat.eq_zero_or_pos (keyParts l).length with h0 | h0
  · obtain ⟨A', c', hv', -, -⟩ := Kd.R_reads hv
    rw [h0] at hv'
    subst hv'
    have hl0 : keyJ l = [] := by unfold keyJ; rw [List.length_eq_zero_iff.1 h0]; rfl
    rw [hl0]
    refine (Tryz.joinS0_calls A' c' ⟨#[44]⟩ W).mono ?_
    rintro e w' ⟨he, rfl⟩
    exact ⟨he, Below.refl _ _⟩
  · obtain ⟨g, cap, cur, hv', hg, hgb⟩ := own_row hv h0
    subst hv'
    obtain ⟨_, hcap, hC⟩ := Kd.R_reads' hv
    refine Tryz.joinS_calls g 0 cap (keyParts l) ⟨#[44]⟩ W (fun j x hx => ?_) (blk_lt hgb) (by unfold keyParts; rw [List.length_map]; omega) hcap (by have : (Lib.join ((keyParts l).map (·.data.toList)) [44]).length = (keyJ l).length := rfl; show (Lib.join ((keyParts l).map (·.data.toList)) [44]).length ≤ _; omega)
    have hj := (List.getElem?_eq_some_iff.1 hx).1
    have := lstr_at hC j hj
    rw [add_plain] at this
    rw [Nat.zero_add, this]
    rw [List.getElem?_eq_getElem hj] at hx
    rw [Option.some.inj hx]
end Go.Proofs.YtjhgckpcadngaaaGreatK
