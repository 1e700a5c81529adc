/- Labels: the law LabelsAsk's contract. -/
import Derived.Test.YtjhgckpcadngaaaGreatPLAx0
import Derived.Test.YtjhgckpcadngaaaGreatPLAx1
import Derived.Test.YtjhgckpcadngaaaGreatPLAx2
import Derived.Test.YtjhgckpcadngaaaGreatPLAx3
import Derived.Test.YtjhgckpcadngaaaGreatKFlow3
import Derived.Test.YtjhgckpcadngaaaGreatKFlow4
import Derived.Test.YtjhgckpcadngaaaGreatKJoin
import Derived.Test.YtjhgckpcadngaaaGreatKEv
import Derived.Test.YtjhgckpcadngaaaGreatKOpen
import Derived.Lib.SlBytesConst
import Derived.Lib.Bytes
import Derived.Deep.RegionWith
import Derived.Deep.QuietTactic
import Derived.Deep.RegionHeld3
import Derived.BigQuiet
import Derived.Outline
import Derived.Deep.WholeRow
import Derived.Lib.SliceRun
import Derived.Lib.LazyBuf
import Derived.Lib.ConvBytes
import Derived.Laws.Cover1
import Derived.Laws.CopyOwn
import Derived.Lib.Strings
import Derived.Lib.Slices
import Derived.Lib.Walk
import Derived.Lib.Bytealg
import Derived.Tactics
import Derived.Tactics2
import Derived.Defers
import Derived.Laws.Pointers
import Derived.Laws.LoneSync
import Derived.RegionTactic
import Derived.RegionCalls
import Derived.ChangeAlike
import Derived.Test.YtjhgckpcadngaaaGreatKLabA
import Derived.Test.YtjhgckpcadngaaaGreatKLabB
import Derived.Test.YtjhgckpcadngaaaGreatKLabC
import Derived.Test.YtjhgckpcadngaaaGreatKFrm
import Derived.Test.YtjhgckpcadngaaaGreatKSrt
import Derived.Test.YtjhgckpcadngaaaGreatKSrtN
import Derived.Test.YtjhgckpcadngaaaGreatKLabF
import Derived.Test.YtjhgckpcadngaaaGreatKLabG
import Derived.Test.YtjhgckpcadngaaaGreatKLabH
import Derived.Test.YtjhgckpcadngaaaGreatKLabI
import Derived.Test.YtjhgckpcadngaaaGreatKLabJ
import Derived.Test.YtjhgckpcadngaaaGreatKLabK
import Derived.Test.YtjhgckpcadngaaaGreatKLabL
import Derived.Test.YtjhgckpcadngaaaGreatKLabM
import Derived.Test.YtjhgckpcadngaaaGreatKLabN
import Derived.Test.YtjhgckpcadngaaaGreatPLAx6
import Derived.Test.YtjhgckpcadngaaaGreatPLAx4
import Derived.Test.YtjhgckpcadngaaaGreatKLabE
namespace Go.Proofs.YtjhgckpcadngaaaGreatK
open Go.RowKit Go.Proofs.YtjhgckpcadngaaaGreatW.PrintWords Go.Proofs.YtjhgckpcadngaaaGreatW.PrintLast Go.Proofs.YtjhgckpcadngaaaGreatW.PrintMore
open Go.Proofs.YtjhgckpcadngaaaGreat.PLA Go.Proofs.YtjhgckpcadngaaaGreat Go.Proofs.YtjhgckpcadngaaaGreatSrt
attribute [local go_sem] max2_int min2_int max_two min_two max_three min_three max_four min_four
set_option linter.unusedVariables false
set_option linter.unusedSimpArgs false
theorem info35L : (Tryz.prog.info? 35).map (fun i => (i.zero, i.size, i.bytes)) = some (some (.agg #[.string ⟨#[]⟩, .string ⟨#[]⟩, .string ⟨#[]⟩]), 3, 48) := by kernel_rfl
theorem append_runM (W : World) (base : Nat) (ty : TypeId) (v : Value) (xs ys : List S35) (A : Option Addr) (c : Nat) (HO : Kd.R k35 35 W base (fun _ => True) v xs) (HR : Kd.C k35 W A ys.length ys) (hbase : base ≤ W.heap.size) (hl : (xs.length + ys.length) * 48 ≤ 140737488355328) :
    ∃ v1 w1, (Builtin.append_ #[33, 33] ty #[v, .slice A ys.length c]).run Tryz.prog W = .ok v1 w1 ∧ Kd.R k35 35 w1 base (fun _ => True) v1 (xs ++ ys) ∧ W.grownBy w1 v.ownBlock ∧ (v1.ownBlock = v.ownBlock ∨ ∃ b, v1.ownBlock = some b ∧ W.heap.size ≤ b) := by
  have h := Kd.R_append_rows_step (P := Tryz.prog) (ops := #[]) (o := { dst := some 0, op := .call { callee := .builtin .append, args := #[.tmp 0, .tmp 1], argTypes := #[33, 33] }, type := ty, pos := "", after := #[], guard := none }) (a := { tmps := #[v, .slice A ys.length c], defers := [] }) (Q := fun _ _ _ => False)
    (Kc := fun a' w1 => ∃ v1, a'.tmps[0]? = some v1 ∧ Kd.R k35 35 w1 base (fun _ => True) v1 (xs ++ ys) ∧ W.grownBy w1 v.ownBlock ∧ (v1.ownBlock = v.ownBlock ∨ ∃ b, v1.ownBlock = some b ∧ W.heap.size ≤ b))
    k35 (w0 := W) base rfl (.tmp 0) (.tmp 1) 33 35 (.agg #[.string ⟨#[]⟩, .string ⟨#[]⟩, .string ⟨#[]⟩]) 48 rfl Tryz.underlying33 info35L rfl (by decide) (by decide) v xs ys A ys.length c (fun _ => True) (fun _ => False) rfl rfl HO HR (fun _ _ h => h) (fun _ hk => hk.elim) (fun _ _ => trivial) ((Below.refl _ _).mono hbase) hbase (by omega)
    (fun v1 w1 h1 h2 h3 h4 => ⟨v1, rfl, h1, h3, h4⟩)
  rw [if_pos (show Region.wanted _ _ = true from rfl)] at h
  unfold Oper.wp at h
  obtain ⟨a, ha⟩ : ∃ a : Act, a = { tmps := #[v, .slice A ys.length c], defers := [] } := ⟨_, rfl⟩
  have e0 : a.eval (.tmp 0) = v := by rw [ha]; rfl
  have e1 : a.eval (.tmp 1) = .slice A ys.length c := by rw [ha]; rfl
  have e2 : ∀ u : Value, (a.put (some 0) u).tmps[0]? = some u := fun u => by rw [ha]; rfl
  rw [← ha] at h
  clear ha
  cases hb : (Builtin.append_ #[33, 33] ty #[v, .slice A ys.length c]).run Tryz.prog W with
  | ok v1 w1 =>
    have he : ∀ o : Oper, o.op = .call { callee := .builtin .append, args := #[.tmp 0, .tmp 1], argTypes := #[33, 33] } → o.type = ty → (execOp a.eval o).run Tryz.prog W = .ok (.value v1) w1 := fun o h1 h2 => by
      simp [execOp, resolve, invoke, builtin, h1, h2, e0, e1, hb]
    rw [he _ rfl rfl, Oper.upon_value] at h
    obtain ⟨u, hu, h1, h2, h3⟩ := h
    obtain rfl : v1 = u := Option.some.inj ((e2 v1).symm.trans hu)
    exact ⟨_, _, rfl, h1, h2, h3⟩
  | halt hh w1 =>
    exfalso
    have he : ∀ o : Oper, o.op = .call { callee := .builtin .append, args := #[.tmp 0, .tmp 1], argTypes := #[33, 33] } → o.type = ty → (execOp a.eval o).run Tryz.prog W = .halt hh w1 := fun o h1 h2 => by
      simp [execOp, resolve, invoke, builtin, h1, h2, e0, e1, hb]
    rw [he _ rfl rfl] at h
    cases hh <;> simp [Oper.upon, LetsOut] at h
theorem append_nothingM (W : World) (ty : TypeId) (g : Nat) (A : Option Addr) (c : Nat) : (Builtin.append_ #[33, 33] ty #[.slice (some ⟨g, 0, none⟩) 0 0, .slice A 0 c]).run Tryz.prog W = .ok (.slice (some ⟨g, 0, none⟩) 0 0) W := by
  obtain ⟨i, hi, hzz⟩ := Option.map_eq_some_iff.1 info35L
  cases A <;> simp [Builtin.append_, run_underlying Tryz.underlying33, sizeOf, typeInfo, hi, storeCells, loadCellsFrom, Builtin.lenOf, Builtin.firstCells, loadCells]
theorem empty_RM {W : World} {g base : Nat} (h : W.heap[g]? = some (.cells #[] 35 (0, 0))) (hb : base ≤ g) : Kd.R k35 35 W base (fun _ => True) (.slice (some ⟨g, 0, none⟩) 0 0) [] :=
  ⟨fun k hk => trivial, [], ⟨rfl, .inr ⟨g, 0, #[], rfl, hb, h, Nat.le_refl _, by simp [maxLen], rfl, rfl⟩⟩, Reps.none _ _⟩
theorem append_emptyM (W : World) (base : Nat) (ty : TypeId) (g : Nat) (ys : List S35) (A : Option Addr) (c : Nat) (h0 : W.heap[g]? = some (.cells #[] 35 (0, 0))) (hg : base ≤ g) (hbase : base ≤ W.heap.size) (HR : Kd.C k35 W A ys.length ys) (hl : ys.length ≤ 1000000) :
    ∃ v1 w1, (Builtin.append_ #[33, 33] ty #[.slice (some ⟨g, 0, none⟩) 0 0, .slice A ys.length c]).run Tryz.prog W = .ok v1 w1 ∧ Kd.R k35 35 w1 base (fun _ => True) v1 ys ∧ Below W.heap.size W w1 := by
  by_cases hy : ys.length = 0
  · obtain rfl := List.length_eq_zero_iff.1 hy
    exact ⟨_, _, append_nothingM W ty g A c, empty_RM h0 hg, Below.refl _ _⟩
  obtain ⟨v1, w1, h1, h2, _, _⟩ := append_runM W base ty (.slice (some ⟨g, 0, none⟩) 0 0) [] ys A c (empty_RM h0 hg) HR hbase (by simp; omega)
  obtain ⟨i, hi, hzz⟩ := Option.map_eq_some_iff.1 info35L
  simp only [Prod.mk.injEq] at hzz
  obtain ⟨hz, hsz, hby⟩ := hzz
  obtain ⟨ad, rfl, -⟩ := HR.2.2 (by omega)
  obtain ⟨inner, hrep, hcell⟩ := ReadsRow.inner_ HR
  have hr := run_append_grow (P := Tryz.prog) W 33 ty 35 i (.agg #[.string ⟨#[]⟩, .string ⟨#[]⟩, .string ⟨#[]⟩]) Tryz.underlying33 hi hz ⟨g, 0, none⟩ 0 0 [] (by simp) (by intro j v hj; simp at hj) ad ys.length c inner (by rw [hrep.1, hsz]; rfl)
    hcell (by omega) (by omega) (growslice_fits (by omega) (by rw [hby]; omega))
  rw [h1] at hr
  injection hr with e1 e2
  refine ⟨v1, w1, h1, by simpa using h2, ?_⟩
  rw [e2]
  exact below_alloc (below_drew (Below.refl _ _)) _
theorem exec_appendM {ρ : Operand → Value} {s x : Nat} {ty : TypeId} {g : Option (Nat × Bool)} {v u v1 : Value} {w w1 : World} (hs : ρ (.tmp s) = v) (hx : ρ (.tmp x) = u) (h : (Builtin.append_ #[33, 33] ty #[v, u]).run Tryz.prog w = .ok v1 w1) :
    (execOp ρ (opOf (.call { callee := .builtin .append, args := #[.tmp s, .tmp x], argTypes := #[33, 33] }) ty g)).run Tryz.prog w = .ok (.value v1) w1 := by
  simp [execOp, resolve, invoke, builtin, opOf, hs, hx, h]
theorem exec_build0M {ρ : Operand → Value} {ty : TypeId} {g : Option (Nat × Bool)} {w : World} :
    (execOp ρ (opOf (.buildSlice 33 0 #[]) ty g)).run Tryz.prog w = .ok (.value (.slice (some ⟨w.heap.size, 0, none⟩) 0 0)) (w.alloc (.cells #[] 35)) := by
  have h5 := Tryz.underlying33
  obtain ⟨i, hi, hzz⟩ := Option.map_eq_some_iff.1 info35L
  simp only [Prod.mk.injEq] at hzz
  obtain ⟨hz, hsz, hby⟩ := hzz
  simp [execOp, opOf, Instr.buildSlice, go_sem, h5, hi, hz, hsz, newRow]

theorem exec_build1M {ρ : Operand → Value} {x : Nat} {s0 s1 s2 : ByteArray} {ty : TypeId} {g : Option (Nat × Bool)} {w : World} (hx : ρ (.tmp x) = .agg #[.string s0, .string s1, .string s2]) :
    (execOp ρ (opOf (.buildSlice 33 1 #[(0, .tmp x)]) ty g)).run Tryz.prog w = .ok (.value (.slice (some ⟨w.heap.size, 0, none⟩) 1 1)) (w.alloc (.cells #[.string s0, .string s1, .string s2] 35)) := by
  have h5 := Tryz.underlying33
  obtain ⟨i, hi, hzz⟩ := Option.map_eq_some_iff.1 info35L
  simp only [Prod.mk.injEq] at hzz
  obtain ⟨hz, hsz, hby⟩ := hzz
  simp [execOp, opOf, Instr.buildSlice, go_sem, h5, hi, hz, hsz, newRow, hx, Value.cells]
theorem match_one (l : List S47) (x : S35) : matchL l [x] = mtch (getL l x.f0) x := by unfold matchL; simp
theorem lit_seq (a b : List UInt8) : seq ⟨a.toArray⟩ ⟨b.toArray⟩ = (a == b) := by unfold seq; rw [tl_data, tl_data]
theorem q_eq : seq ⟨#[61]⟩ ⟨#[61]⟩ = true := by decide +kernel
theorem q_ne1 : ¬ seq ⟨#[33, 61]⟩ ⟨#[61]⟩ = true := by decide +kernel
theorem q_ne2 : seq ⟨#[33, 61]⟩ ⟨#[33, 61]⟩ = true := by decide +kernel
theorem q_be1 : ¬ seq ⟨#[94, 61]⟩ ⟨#[61]⟩ = true := by decide +kernel
theorem q_be2 : ¬ seq ⟨#[94, 61]⟩ ⟨#[33, 61]⟩ = true := by decide +kernel
theorem q_be3 : seq ⟨#[94, 61]⟩ ⟨#[94, 61]⟩ = true := by decide +kernel
theorem q_nb1 : ¬ seq ⟨#[33, 94]⟩ ⟨#[61]⟩ = true := by decide +kernel
theorem q_nb2 : ¬ seq ⟨#[33, 94]⟩ ⟨#[33, 61]⟩ = true := by decide +kernel
theorem q_nb3 : ¬ seq ⟨#[33, 94]⟩ ⟨#[94, 61]⟩ = true := by decide +kernel
theorem q_nb4 : seq ⟨#[33, 94]⟩ ⟨#[33, 94]⟩ = true := by decide +kernel
theorem match_one_eq (l : List S47) (n v : ByteArray) : matchL l [⟨n, ⟨#[61]⟩, v⟩] = seq (getL l n) v := by rw [match_one]; unfold mtch; rw [if_pos q_eq]
theorem match_one_ne (l : List S47) (n v : ByteArray) : matchL l [⟨n, ⟨#[33, 61]⟩, v⟩] = !(seq (getL l n) v) := by rw [match_one]; unfold mtch; rw [if_neg q_ne1, if_pos q_ne2]
theorem match_one_be (l : List S47) (n v : ByteArray) : matchL l [⟨n, ⟨#[94, 61]⟩, v⟩] = hpf (getL l n) v := by rw [match_one]; unfold mtch; rw [if_neg q_be1, if_neg q_be2, if_pos q_be3]
theorem match_one_nb (l : List S47) (n v : ByteArray) : matchL l [⟨n, ⟨#[33, 94]⟩, v⟩] = !(hpf (getL l n) v) := by rw [match_one]; unfold mtch; rw [if_neg q_nb1, if_neg q_nb2, if_neg q_nb3, if_pos q_nb4]
theorem hpf_empty (a : ByteArray) : hpf a ⟨#[]⟩ = true := by
  unfold hpf
  have e : (⟨#[]⟩ : ByteArray).size = 0 := rfl
  rw [e, if_pos (by omega)]
  simp [tl_data]
theorem seq_hpf (a b : ByteArray) (h : seq a b = true) : hpf a b = true := by
  have e : a = b := by
    unfold seq at h
    rw [tl_data, tl_data] at h
    have h1 := beq_iff_eq.1 h
    cases a; cases b
    simp only [Array.toList_inj] at h1
    simpa using h1
  subst e
  unfold hpf
  rw [if_pos (Int.le_refl _)]
  simp
theorem opens_L : Opens Tryz.prog k47 (fun x => x.f0.size ≤ 140737488351232 ∧ x.f1.size ≤ 140737488351232) 47 :=
  opens_struct (fun x : S47 => (x.f0, x.f1)) (fun p => ⟨p.1, p.2⟩) (fun _ => rfl) (opensL_cons 9 0 1 (opens_string Tryz.underlying9 (by kernel_rfl)) rfl (opensL_one 9 1 (opens_string Tryz.underlying9 (by kernel_rfl)))) Tryz.underlying47 (by kernel_rfl) rfl
theorem opens_M : Opens Tryz.prog k35 (fun x => x.f0.size ≤ 140737488351232 ∧ x.f1.size ≤ 140737488351232 ∧ x.f2.size ≤ 140737488351232) 35 :=
  opens_struct (fun x : S35 => (x.f0, x.f1, x.f2)) (fun p => ⟨p.1, p.2.1, p.2.2⟩) (fun _ => rfl) (opensL_cons 9 0 1 (opens_string Tryz.underlying9 (by kernel_rfl)) rfl (opensL_cons 9 1 2 (opens_string Tryz.underlying9 (by kernel_rfl)) rfl (opensL_one 9 2 (opens_string Tryz.underlying9 (by kernel_rfl))))) Tryz.underlying35 (by kernel_rfl) rfl
set_option maxHeartbeats 2000000 in
set_option maxRecDepth 100000 in
theorem ask_calls (A : Option Addr) (c : Nat) (l : List S47) (m0 m1 m2 : ByteArray) (A2 : Option Addr) (c2 : Nat) (more : List S35) (w : World)
    (hr : Kd.C k47 w A l.length l) (hr2 : Kd.C k35 w A2 more.length more) (hsz : ∀ x ∈ l, x.f0.size ≤ 140737488351232 ∧ x.f1.size ≤ 140737488351232) (hm : m0.size ≤ 140737488351232 ∧ m2.size ≤ 140737488351232) :
    Calls Tryz.prog 5 #[.slice A l.length c, .agg #[.string m0, .string m1, .string m2], .slice A2 more.length c2] w fun e w' => e = .returned (.bool true) ∧ Below w.heap.size w w' := by
  have HR := Aside0.mk hr; have HR2 := Aside0.mk hr2
  have HSET : Aside0 (∀ W, Below w.heap.size w W → Calls Tryz.prog 17 #[.slice A l.length c] W fun e w' => e = .returned (.bool (setB l)) ∧ Below W.heap.size W w') := ⟨fun W hb => set_calls A c l hsz W (Kd.C_below hr hb)⟩
  obtain ⟨sb, hsb⟩ : ∃ b, b = setB l := ⟨_, rfl⟩
  rw [← hsb] at HSET
  have hm0 := hm.1
  have hm2 := hm.2
  clear hr hr2 hsz hsb hm
  go_enter Tryz.func5, Tryz.ntmps5
  go_wp2_with fail
  refine (HSET.out _ (below_alloc (Below.refl _ _) _)).mono ?_
  rintro e w1 ⟨rfl, hb1⟩
  have hb0 : w1.heap[w.heap.size]? = some (.cells #[.string m0, .string m1, .string m2] 35 (0, 0)) := blk_below (blk_new w _) hb1
  have HB1 := Aside0.mk (below_step (below_alloc (Below.refl w.heap.size w) _) hb1)
  obtain ⟨b0, hb0e⟩ : ∃ b, b = w.heap.size := ⟨_, rfl⟩
  rw [← hb0e] at hb0
  have d0 : w1.cell? ⟨b0, 0, none⟩ = some (.string m0) := by rw [blk_cell hb0]; rfl
  have d2 : w1.cell? ⟨b0, 2, none⟩ = some (.string m2) := by rw [blk_cell hb0]; rfl
  have HBLK := Aside0.mk hb0
  have hblt := blk_lt hb0
  have hbn1 : ¬ b0 = w1.heap.size := by omega
  have hbn2 : ¬ w1.heap.size = b0 := by omega
  rw [← hb0e]
  have HB0 := Aside0.mk hb0e
  clear hb1 hb0 hb0e
  cases sb with
  | false =>
    go_wp2_with fail
    refine (live_calls w1).mono ?_
    rintro e w2 ⟨rfl, hb2⟩
    have HB2 := Aside0.mk (below_step HB1.out hb2)
    clear hb2
    go_wp2_with fail
    go_ret
    exact ⟨rfl, HB2.out⟩
  | true =>
    by_cases hlm : 60 < more.length
    · have hli : (60 : Int) < (more.length : Int) := by omega
      go_wp2_with fail
      refine (live_calls w1).mono ?_
      rintro e w2 ⟨rfl, hb2⟩
      have HB2 := Aside0.mk (below_step HB1.out hb2)
      clear hb2
      go_wp2_with fail
      go_ret
      exact ⟨rfl, HB2.out⟩
    · have hli : ¬ (60 : Int) < (more.length : Int) := by omega
      by_cases hsm : 20000 < m0.size + m2.size
      · have hsi : (20000 : Int) < (m0.size : Int) + (m2.size : Int) := by omega
        go_wp2_with fail
        refine (live_calls w1).mono ?_
        rintro e w2 ⟨rfl, hb2⟩
        have HB2 := Aside0.mk (below_step HB1.out hb2)
        clear hb2
        go_wp2_with fail
        go_ret
        exact ⟨rfl, HB2.out⟩
      · have hsi : ¬ (20000 : Int) < (m0.size : Int) + (m2.size : Int) := by omega
        go_upto_region 4 with (fail)
        obtain ⟨v1, hv1⟩ : ∃ W, W = w1.alloc (.cells #[.string m0, .string ⟨#[61]⟩, .string m2] 35) := ⟨_, rfl⟩
        obtain ⟨e1, he1⟩ : ∃ b, b = w1.heap.size := ⟨_, rfl⟩
        rw [← hv1, ← he1]
        have hbl1 : Below w1.heap.size w1 v1 := by rw [hv1]; exact below_alloc (Below.refl _ _) _
        have hk1 : v1.heap[e1]? = some (.cells #[.string m0, .string ⟨#[61]⟩, .string m2] 35 (0, 0)) := by rw [hv1, he1]; exact blk_new w1 _
        have HK11 := Aside0.mk hk1
        have HBv1 := Aside0.mk (below_step HB1.out hbl1)
        have HBL1 := Aside0.mk hbl1
        replace d0 := pw_cell_below hbl1 d0
        replace d2 := pw_cell_below hbl1 d2
        replace hblt : b0 < v1.heap.size := Nat.lt_of_lt_of_le hblt hbl1.size
        replace hbn1 : ¬ b0 = v1.heap.size := by omega
        replace hbn2 : ¬ v1.heap.size = b0 := by omega
        clear hv1 he1 hbl1 hk1
        go_upto_region 5 with (fail)
        obtain ⟨v2, hv2⟩ : ∃ W, W = v1.alloc (.cells #[.string m0, .string ⟨#[33, 61]⟩, .string m2] 35) := ⟨_, rfl⟩
        obtain ⟨e2, he2⟩ : ∃ b, b = v1.heap.size := ⟨_, rfl⟩
        rw [← hv2, ← he2]
        have hbl2 : Below v1.heap.size v1 v2 := by rw [hv2]; exact below_alloc (Below.refl _ _) _
        have hk2 : v2.heap[e2]? = some (.cells #[.string m0, .string ⟨#[33, 61]⟩, .string m2] 35 (0, 0)) := by rw [hv2, he2]; exact blk_new v1 _
        have HK12 := Aside0.mk (blk_below HK11.out hbl2)
        have HK22 := Aside0.mk hk2
        have HBv2 := Aside0.mk (below_step HBv1.out hbl2)
        have HBL2 := Aside0.mk hbl2
        replace d0 := pw_cell_below hbl2 d0
        replace d2 := pw_cell_below hbl2 d2
        replace hblt : b0 < v2.heap.size := Nat.lt_of_lt_of_le hblt hbl2.size
        replace hbn1 : ¬ b0 = v2.heap.size := by omega
        replace hbn2 : ¬ v2.heap.size = b0 := by omega
        clear hv2 he2 hbl2 hk2
        go_upto_region 6 with (fail)
        obtain ⟨v3, hv3⟩ : ∃ W, W = v2.alloc (.cells #[.string m0, .string ⟨#[94, 61]⟩, .string m2] 35) := ⟨_, rfl⟩
        obtain ⟨e3, he3⟩ : ∃ b, b = v2.heap.size := ⟨_, rfl⟩
        rw [← hv3, ← he3]
        have hbl3 : Below v2.heap.size v2 v3 := by rw [hv3]; exact below_alloc (Below.refl _ _) _
        have hk3 : v3.heap[e3]? = some (.cells #[.string m0, .string ⟨#[94, 61]⟩, .string m2] 35 (0, 0)) := by rw [hv3, he3]; exact blk_new v2 _
        have HK13 := Aside0.mk (blk_below HK12.out hbl3)
        have HK23 := Aside0.mk (blk_below HK22.out hbl3)
        have HK33 := Aside0.mk hk3
        have HBv3 := Aside0.mk (below_step HBv2.out hbl3)
        have HBL3 := Aside0.mk hbl3
        replace d0 := pw_cell_below hbl3 d0
        replace d2 := pw_cell_below hbl3 d2
        replace hblt : b0 < v3.heap.size := Nat.lt_of_lt_of_le hblt hbl3.size
        replace hbn1 : ¬ b0 = v3.heap.size := by omega
        replace hbn2 : ¬ v3.heap.size = b0 := by omega
        clear hv3 he3 hbl3 hk3
        go_upto_region 7 with (fail)
        obtain ⟨v4, hv4⟩ : ∃ W, W = v3.alloc (.cells #[.string m0, .string ⟨#[33, 94]⟩, .string m2] 35) := ⟨_, rfl⟩
        obtain ⟨e4, he4⟩ : ∃ b, b = v3.heap.size := ⟨_, rfl⟩
        rw [← hv4, ← he4]
        have hbl4 : Below v3.heap.size v3 v4 := by rw [hv4]; exact below_alloc (Below.refl _ _) _
        have hk4 : v4.heap[e4]? = some (.cells #[.string m0, .string ⟨#[33, 94]⟩, .string m2] 35 (0, 0)) := by rw [hv4, he4]; exact blk_new v3 _
        have HK14 := Aside0.mk (blk_below HK13.out hbl4)
        have HK24 := Aside0.mk (blk_below HK23.out hbl4)
        have HK34 := Aside0.mk (blk_below HK33.out hbl4)
        have HK44 := Aside0.mk hk4
        have HBv4 := Aside0.mk (below_step HBv3.out hbl4)
        have HBL4 := Aside0.mk hbl4
        replace d0 := pw_cell_below hbl4 d0
        replace d2 := pw_cell_below hbl4 d2
        replace hblt : b0 < v4.heap.size := Nat.lt_of_lt_of_le hblt hbl4.size
        replace hbn1 : ¬ b0 = v4.heap.size := by omega
        replace hbn2 : ¬ v4.heap.size = b0 := by omega
        clear hv4 he4 hbl4 hk4
        obtain ⟨gv, hgv⟩ : ∃ g, g = getL l m0 := ⟨_, rfl⟩
        have HM1 : Aside0 (matchL l [(⟨m0, ⟨#[61]⟩, m2⟩ : S35)] = seq gv m2) := ⟨by rw [hgv]; exact match_one_eq l m0 m2⟩
        have HM2 : Aside0 (matchL l [(⟨m0, ⟨#[33, 61]⟩, m2⟩ : S35)] = !(seq gv m2)) := ⟨by rw [hgv]; exact match_one_ne l m0 m2⟩
        have HM3 : Aside0 (matchL l [(⟨m0, ⟨#[94, 61]⟩, m2⟩ : S35)] = hpf gv m2) := ⟨by rw [hgv]; exact match_one_be l m0 m2⟩
        have HM4 : Aside0 (matchL l [(⟨m0, ⟨#[33, 94]⟩, m2⟩ : S35)] = !(hpf gv m2)) := ⟨by rw [hgv]; exact match_one_nb l m0 m2⟩
        have HIMP : Aside0 (seq gv m2 = true → hpf gv m2 = true) := ⟨seq_hpf gv m2⟩
        obtain ⟨p1, hp1⟩ : ∃ b, b = seq gv m2 := ⟨_, rfl⟩
        obtain ⟨p3, hp3⟩ : ∃ b, b = hpf gv m2 := ⟨_, rfl⟩
        rw [← hp1] at HM1 HM2 HIMP
        rw [← hp3] at HM3 HM4 HIMP
        have HP1 : Aside0 (p1 = matchL l [(⟨m0, ⟨#[61]⟩, m2⟩ : S35)]) := ⟨HM1.out.symm⟩
        clear hgv hp1 hp3 d0 d2 hblt hbn1 hbn2
        obtain ⟨Jnv, hJnv⟩ : ∃ J : World → Prop, J = fun W' => Below v4.heap.size v4 W' := ⟨_, rfl⟩
        have HJD : Aside0 (∀ W', Jnv W' → Below v4.heap.size v4 W') := ⟨fun W' h => by rw [hJnv] at h; exact h⟩
        have HDJ : Aside0 (∀ W', Below v4.heap.size v4 W' → Jnv W') := ⟨fun W' h => by rw [hJnv]; exact h⟩
        have HJA : Aside0 (∀ W' o, Jnv W' → Jnv (W'.alloc o)) := ⟨fun W' o h => HDJ.out _ (below_alloc (HJD.out _ h) o)⟩
        have HRF : Aside0 (∀ W : World, Below W.heap.size W W) := ⟨fun W => Below.refl _ _⟩
        have SF1 : Aside0 (∀ W', Jnv W' → W'.cell? ⟨e1, 0, none⟩ = some (.string m0) ∧ W'.cell? ⟨e1, 1, none⟩ = some (.string ⟨#[61]⟩) ∧ W'.cell? ⟨e1, 2, none⟩ = some (.string m2)) := ⟨fun W' hW => by
          have h := blk_below HK14.out (HJD.out W' hW)
          exact ⟨by rw [blk_cell h]; rfl, by rw [blk_cell h]; rfl, by rw [blk_cell h]; rfl⟩⟩
        have SF2 : Aside0 (∀ W', Jnv W' → W'.cell? ⟨e2, 0, none⟩ = some (.string m0) ∧ W'.cell? ⟨e2, 1, none⟩ = some (.string ⟨#[33, 61]⟩) ∧ W'.cell? ⟨e2, 2, none⟩ = some (.string m2)) := ⟨fun W' hW => by
          have h := blk_below HK24.out (HJD.out W' hW)
          exact ⟨by rw [blk_cell h]; rfl, by rw [blk_cell h]; rfl, by rw [blk_cell h]; rfl⟩⟩
        have SF3 : Aside0 (∀ W', Jnv W' → W'.cell? ⟨e3, 0, none⟩ = some (.string m0) ∧ W'.cell? ⟨e3, 1, none⟩ = some (.string ⟨#[94, 61]⟩) ∧ W'.cell? ⟨e3, 2, none⟩ = some (.string m2)) := ⟨fun W' hW => by
          have h := blk_below HK34.out (HJD.out W' hW)
          exact ⟨by rw [blk_cell h]; rfl, by rw [blk_cell h]; rfl, by rw [blk_cell h]; rfl⟩⟩
        have SF4 : Aside0 (∀ W', Jnv W' → W'.cell? ⟨e4, 0, none⟩ = some (.string m0) ∧ W'.cell? ⟨e4, 1, none⟩ = some (.string ⟨#[33, 94]⟩) ∧ W'.cell? ⟨e4, 2, none⟩ = some (.string m2)) := ⟨fun W' hW => by
          have h := blk_below HK44.out (HJD.out W' hW)
          exact ⟨by rw [blk_cell h]; rfl, by rw [blk_cell h]; rfl, by rw [blk_cell h]; rfl⟩⟩
        have HCL : Aside0 (∀ (W' : World) (b : Nat) (x : S35), Jnv W' → Kd.C k35 W' (some ⟨b, 0, none⟩) 1 [x] → Calls Tryz.prog 20 #[.slice A l.length c, .slice (some ⟨b, 0, none⟩) 1 1] W' fun e w' => e = .returned (.bool (matchL l [x])) ∧ Jnv w' ∧ Below W'.heap.size W' w') := ⟨fun W' b x hW hC => by
          refine (match_calls A c l (some ⟨b, 0, none⟩) 1 [x] W' (Kd.C_below HR.out (below_then HBv4.out HBv4.out.size (HJD.out _ hW))) hC).mono ?_
          rintro e w' ⟨he, hb⟩
          exact ⟨he, HDJ.out _ (below_step (HJD.out _ hW) hb), hb⟩⟩
        clear hJnv
        go_upto_region 7 with (fail)
        go_cut [83] from 51 (fun s wx => s = .bool false ∧ Aside0 (Below v4.heap.size v4 wx))
        case first =>
          cases p1 with
          | true =>
            obtain rfl : p3 = true := HIMP.out rfl
            refine wp_region_flow (by kernel_rfl) (by kernel_rfl) Jnv (fun W W' => Below W.heap.size W W') HRF.out (HDJ.out _ (below_drew1 (Below.refl _ _))) [(0, (fun u => u = Value.slice A l.length c), (fun _ _ => True)), (1, (fun u => u = Value.agg #[.string m0, .string ⟨#[61]⟩, .string m2]), (fun _ _ => True)), (2, (fun u => ∃ b : Nat, u = Value.slice (some ⟨b, 0, none⟩) 1 1), (fun u W => ∃ b : Nat, u = Value.slice (some ⟨b, 0, none⟩) 1 1 ∧ Kd.C k35 W (some ⟨b, 0, none⟩) 1 [(⟨m0, ⟨#[61]⟩, m2⟩ : S35)])), (3, (fun u => u = Value.bool true), (fun _ _ => True)), (4, (fun u => u = Value.slice A l.length c), (fun _ _ => True)), (5, (fun u => u = Value.agg #[.string m0, .string ⟨#[33, 61]⟩, .string m2]), (fun _ _ => True)), (6, (fun u => ∃ b : Nat, u = Value.slice (some ⟨b, 0, none⟩) 1 1), (fun u W => ∃ b : Nat, u = Value.slice (some ⟨b, 0, none⟩) 1 1 ∧ Kd.C k35 W (some ⟨b, 0, none⟩) 1 [(⟨m0, ⟨#[33, 61]⟩, m2⟩ : S35)])), (7, (fun u => u = Value.bool false), (fun _ _ => True)), (8, (fun u => u = Value.bool false), (fun _ _ => True)), (9, (fun u => u = Value.bool false), (fun _ _ => True)), (10, (fun u => u = Value.slice A l.length c), (fun _ _ => True)), (11, (fun u => u = Value.agg #[.string m0, .string ⟨#[94, 61]⟩, .string m2]), (fun _ _ => True)), (12, (fun u => ∃ b : Nat, u = Value.slice (some ⟨b, 0, none⟩) 1 1), (fun u W => ∃ b : Nat, u = Value.slice (some ⟨b, 0, none⟩) 1 1 ∧ Kd.C k35 W (some ⟨b, 0, none⟩) 1 [(⟨m0, ⟨#[94, 61]⟩, m2⟩ : S35)])), (13, (fun u => u = Value.bool true), (fun _ _ => True)), (14, (fun u => u = Value.slice A l.length c), (fun _ _ => True)), (15, (fun u => u = Value.agg #[.string m0, .string ⟨#[33, 94]⟩, .string m2]), (fun _ _ => True)), (16, (fun u => ∃ b : Nat, u = Value.slice (some ⟨b, 0, none⟩) 1 1), (fun u W => ∃ b : Nat, u = Value.slice (some ⟨b, 0, none⟩) 1 1 ∧ Kd.C k35 W (some ⟨b, 0, none⟩) 1 [(⟨m0, ⟨#[33, 94]⟩, m2⟩ : S35)])), (17, (fun u => u = Value.bool false), (fun _ _ => True)), (18, (fun u => u = Value.bool false), (fun _ _ => True)), (19, (fun u => u = Value.bool false), (fun _ _ => True)), (20, (fun u => u = Value.bool false), (fun _ _ => True)), (21, (fun u => u = Value.slice A l.length c), (fun _ _ => True)), (22, (fun u => u = Value.agg #[.string m0, .string ⟨#[61]⟩, .string m2]), (fun _ _ => True)), (23, (fun u => ∃ b : Nat, u = Value.slice (some ⟨b, 0, none⟩) 1 1), (fun u W => ∃ b : Nat, u = Value.slice (some ⟨b, 0, none⟩) 1 1 ∧ Kd.C k35 W (some ⟨b, 0, none⟩) 1 [(⟨m0, ⟨#[61]⟩, m2⟩ : S35)])), (24, (fun u => u = Value.bool true), (fun _ _ => True)), (25, (fun u => u = Value.bool true), (fun _ _ => True)), (26, (fun u => u = Value.slice A l.length c), (fun _ _ => True)), (27, (fun u => u = Value.agg #[.string m0, .string ⟨#[94, 61]⟩, .string m2]), (fun _ _ => True)), (28, (fun u => ∃ b : Nat, u = Value.slice (some ⟨b, 0, none⟩) 1 1), (fun u W => ∃ b : Nat, u = Value.slice (some ⟨b, 0, none⟩) 1 1 ∧ Kd.C k35 W (some ⟨b, 0, none⟩) 1 [(⟨m0, ⟨#[94, 61]⟩, m2⟩ : S35)])), (29, (fun u => u = Value.bool true), (fun _ _ => True)), (30, (fun u => u = Value.bool false), (fun _ _ => True)), (31, (fun u => u = Value.bool false), (fun _ _ => True)), (32, (fun u => u = Value.bool false), (fun _ _ => True))] ?_
            refine Flow.val _ 0 (some 51) (Op.move (Operand.tmp 0)) 22 (none) [] (Value.slice A l.length c) rfl (by kernel_rfl) (by kernel_rfl) (by kernel_rfl) (by rfl) ?_ ?_ HRF.out
            · (intro W hW hK; go_simp; first | done | with_reducible rfl)
            try simp only [Act.put, List.setIfInBounds_toArray, List.set_cons_zero, List.set_cons_succ]
            refine Flow.val _ 1 (some 52) (Op.load 35 (Operand.tmp 7)) 35 (none) [] (Value.agg #[.string m0, .string ⟨#[61]⟩, .string m2]) rfl (by kernel_rfl) (by kernel_rfl) (by kernel_rfl) (by rfl) ?_ ?_ HRF.out
            · (intro W hW hK; have hF := SF1.out W hW; go_simp; first | done | with_reducible rfl)
            try simp only [Act.put, List.setIfInBounds_toArray, List.set_cons_zero, List.set_cons_succ]
            refine Flow.op _ 2 (some 53) (Op.buildSlice 33 1 #[(0, Operand.tmp 52)]) 33 (none) [] _ _ rfl (by kernel_rfl) (by kernel_rfl) (by kernel_rfl) ⟨_, 0, rfl⟩ ?_ (by rfl) ?_ ?_
            · rintro u W W' hu ⟨q, hv, hq⟩; exact ⟨q, hv, Kd.C_below hq hu⟩
            · intro W hW hK; exact .inl ⟨_, _, ⟨_, rfl⟩, HJA.out _ _ hW, below_alloc (Below.refl _ _) _, ⟨_, rfl, mrow_one W (⟨m0, ⟨#[61]⟩, m2⟩ : S35)⟩, exec_build1M (by rfl)⟩
            rintro u2 ⟨q2, rfl⟩
            try simp only [Act.put, List.setIfInBounds_toArray, List.set_cons_zero, List.set_cons_succ]
            refine Flow.call _ 3 (some 54) (Op.call { callee := Callee.value (Operand.func 20), args := #[Operand.tmp 51, Operand.tmp 53], argTypes := #[22, 33] }) 4 (none) [2] (Value.bool true) 20 #[.slice A l.length c, .slice (some ⟨q2, 0, none⟩) 1 1] rfl (by kernel_rfl) (by kernel_rfl) (by kernel_rfl) (by rfl) ?_ ?_ ?_
            · (intro W; go_simp; first | done | with_reducible rfl)
            · intro W hW hK; have h0 := hK 2 (by simp); simp [updK] at h0; have h1 := HCL.out W q2 (⟨m0, ⟨#[61]⟩, m2⟩ : S35) hW h0; rw [HM1.out] at h1; exact h1
            try simp only [Act.put, List.setIfInBounds_toArray, List.set_cons_zero, List.set_cons_succ]
            refine Flow.val _ 4 (some 55) (Op.move (Operand.tmp 0)) 22 (none) [] (Value.slice A l.length c) rfl (by kernel_rfl) (by kernel_rfl) (by kernel_rfl) (by rfl) ?_ ?_ HRF.out
            · (intro W hW hK; go_simp; first | done | with_reducible rfl)
            try simp only [Act.put, List.setIfInBounds_toArray, List.set_cons_zero, List.set_cons_succ]
            refine Flow.val _ 5 (some 56) (Op.load 35 (Operand.tmp 8)) 35 (none) [] (Value.agg #[.string m0, .string ⟨#[33, 61]⟩, .string m2]) rfl (by kernel_rfl) (by kernel_rfl) (by kernel_rfl) (by rfl) ?_ ?_ HRF.out
            · (intro W hW hK; have hF := SF2.out W hW; go_simp; first | done | with_reducible rfl)
            try simp only [Act.put, List.setIfInBounds_toArray, List.set_cons_zero, List.set_cons_succ]
            refine Flow.op _ 6 (some 57) (Op.buildSlice 33 1 #[(0, Operand.tmp 56)]) 33 (none) [] _ _ rfl (by kernel_rfl) (by kernel_rfl) (by kernel_rfl) ⟨_, 0, rfl⟩ ?_ (by rfl) ?_ ?_
            · rintro u W W' hu ⟨q, hv, hq⟩; exact ⟨q, hv, Kd.C_below hq hu⟩
            · intro W hW hK; exact .inl ⟨_, _, ⟨_, rfl⟩, HJA.out _ _ hW, below_alloc (Below.refl _ _) _, ⟨_, rfl, mrow_one W (⟨m0, ⟨#[33, 61]⟩, m2⟩ : S35)⟩, exec_build1M (by rfl)⟩
            rintro u6 ⟨q6, rfl⟩
            try simp only [Act.put, List.setIfInBounds_toArray, List.set_cons_zero, List.set_cons_succ]
            refine Flow.call _ 7 (some 58) (Op.call { callee := Callee.value (Operand.func 20), args := #[Operand.tmp 55, Operand.tmp 57], argTypes := #[22, 33] }) 4 (none) [6] (Value.bool false) 20 #[.slice A l.length c, .slice (some ⟨q6, 0, none⟩) 1 1] rfl (by kernel_rfl) (by kernel_rfl) (by kernel_rfl) (by rfl) ?_ ?_ ?_
            · (intro W; go_simp; first | done | with_reducible rfl)
            · intro W hW hK; have h0 := hK 6 (by simp); simp [updK] at h0; have h1 := HCL.out W q6 (⟨m0, ⟨#[33, 61]⟩, m2⟩ : S35) hW h0; rw [HM2.out] at h1; exact h1
            try simp only [Act.put, List.setIfInBounds_toArray, List.set_cons_zero, List.set_cons_succ]
            refine Flow.val _ 8 (some 59) (Op.binOp BinOp.eql 4 (Operand.tmp 54) (Operand.tmp 58) 4) 4 (none) [] (Value.bool false) rfl (by kernel_rfl) (by kernel_rfl) (by kernel_rfl) (by rfl) ?_ ?_ HRF.out
            · (intro W hW hK; go_simp; first | done | with_reducible rfl)
            try simp only [Act.put, List.setIfInBounds_toArray, List.set_cons_zero, List.set_cons_succ]
            refine Flow.val _ 9 (some 60) (Op.move (Operand.tmp 59)) 4 (none) [] (Value.bool false) rfl (by kernel_rfl) (by kernel_rfl) (by kernel_rfl) (by rfl) ?_ ?_ HRF.out
            · (intro W hW hK; go_simp; first | done | with_reducible rfl)
            try simp only [Act.put, List.setIfInBounds_toArray, List.set_cons_zero, List.set_cons_succ]
            refine Flow.val _ 10 (some 61) (Op.move (Operand.tmp 0)) 22 (some (9, false)) [] (Value.slice A l.length c) rfl (by kernel_rfl) (by kernel_rfl) (by kernel_rfl) (by rfl) ?_ ?_ HRF.out
            · (intro W hW hK; go_simp; first | done | with_reducible rfl)
            try simp only [Act.put, List.setIfInBounds_toArray, List.set_cons_zero, List.set_cons_succ]
            refine Flow.val _ 11 (some 62) (Op.load 35 (Operand.tmp 9)) 35 (some (9, false)) [] (Value.agg #[.string m0, .string ⟨#[94, 61]⟩, .string m2]) rfl (by kernel_rfl) (by kernel_rfl) (by kernel_rfl) (by rfl) ?_ ?_ HRF.out
            · (intro W hW hK; have hF := SF3.out W hW; go_simp; first | done | with_reducible rfl)
            try simp only [Act.put, List.setIfInBounds_toArray, List.set_cons_zero, List.set_cons_succ]
            refine Flow.op _ 12 (some 63) (Op.buildSlice 33 1 #[(0, Operand.tmp 62)]) 33 (some (9, false)) [] _ _ rfl (by kernel_rfl) (by kernel_rfl) (by kernel_rfl) ⟨_, 0, rfl⟩ ?_ (by rfl) ?_ ?_
            · rintro u W W' hu ⟨q, hv, hq⟩; exact ⟨q, hv, Kd.C_below hq hu⟩
            · intro W hW hK; exact .inl ⟨_, _, ⟨_, rfl⟩, HJA.out _ _ hW, below_alloc (Below.refl _ _) _, ⟨_, rfl, mrow_one W (⟨m0, ⟨#[94, 61]⟩, m2⟩ : S35)⟩, exec_build1M (by rfl)⟩
            rintro u12 ⟨q12, rfl⟩
            try simp only [Act.put, List.setIfInBounds_toArray, List.set_cons_zero, List.set_cons_succ]
            refine Flow.call _ 13 (some 64) (Op.call { callee := Callee.value (Operand.func 20), args := #[Operand.tmp 61, Operand.tmp 63], argTypes := #[22, 33] }) 4 (some (9, false)) [12] (Value.bool true) 20 #[.slice A l.length c, .slice (some ⟨q12, 0, none⟩) 1 1] rfl (by kernel_rfl) (by kernel_rfl) (by kernel_rfl) (by rfl) ?_ ?_ ?_
            · (intro W; go_simp; first | done | with_reducible rfl)
            · intro W hW hK; have h0 := hK 12 (by simp); simp [updK] at h0; have h1 := HCL.out W q12 (⟨m0, ⟨#[94, 61]⟩, m2⟩ : S35) hW h0; rw [HM3.out] at h1; exact h1
            try simp only [Act.put, List.setIfInBounds_toArray, List.set_cons_zero, List.set_cons_succ]
            refine Flow.val _ 14 (some 65) (Op.move (Operand.tmp 0)) 22 (some (9, false)) [] (Value.slice A l.length c) rfl (by kernel_rfl) (by kernel_rfl) (by kernel_rfl) (by rfl) ?_ ?_ HRF.out
            · (intro W hW hK; go_simp; first | done | with_reducible rfl)
            try simp only [Act.put, List.setIfInBounds_toArray, List.set_cons_zero, List.set_cons_succ]
            refine Flow.val _ 15 (some 66) (Op.load 35 (Operand.tmp 10)) 35 (some (9, false)) [] (Value.agg #[.string m0, .string ⟨#[33, 94]⟩, .string m2]) rfl (by kernel_rfl) (by kernel_rfl) (by kernel_rfl) (by rfl) ?_ ?_ HRF.out
            · (intro W hW hK; have hF := SF4.out W hW; go_simp; first | done | with_reducible rfl)
            try simp only [Act.put, List.setIfInBounds_toArray, List.set_cons_zero, List.set_cons_succ]
            refine Flow.op _ 16 (some 67) (Op.buildSlice 33 1 #[(0, Operand.tmp 66)]) 33 (some (9, false)) [] _ _ rfl (by kernel_rfl) (by kernel_rfl) (by kernel_rfl) ⟨_, 0, rfl⟩ ?_ (by rfl) ?_ ?_
            · rintro u W W' hu ⟨q, hv, hq⟩; exact ⟨q, hv, Kd.C_below hq hu⟩
            · intro W hW hK; exact .inl ⟨_, _, ⟨_, rfl⟩, HJA.out _ _ hW, below_alloc (Below.refl _ _) _, ⟨_, rfl, mrow_one W (⟨m0, ⟨#[33, 94]⟩, m2⟩ : S35)⟩, exec_build1M (by rfl)⟩
            rintro u16 ⟨q16, rfl⟩
            try simp only [Act.put, List.setIfInBounds_toArray, List.set_cons_zero, List.set_cons_succ]
            refine Flow.call _ 17 (some 68) (Op.call { callee := Callee.value (Operand.func 20), args := #[Operand.tmp 65, Operand.tmp 67], argTypes := #[22, 33] }) 4 (some (9, false)) [16] (Value.bool false) 20 #[.slice A l.length c, .slice (some ⟨q16, 0, none⟩) 1 1] rfl (by kernel_rfl) (by kernel_rfl) (by kernel_rfl) (by rfl) ?_ ?_ ?_
            · (intro W; go_simp; first | done | with_reducible rfl)
            · intro W hW hK; have h0 := hK 16 (by simp); simp [updK] at h0; have h1 := HCL.out W q16 (⟨m0, ⟨#[33, 94]⟩, m2⟩ : S35) hW h0; rw [HM4.out] at h1; exact h1
            try simp only [Act.put, List.setIfInBounds_toArray, List.set_cons_zero, List.set_cons_succ]
            refine Flow.val _ 18 (some 69) (Op.binOp BinOp.eql 4 (Operand.tmp 64) (Operand.tmp 68) 4) 4 (some (9, false)) [] (Value.bool false) rfl (by kernel_rfl) (by kernel_rfl) (by kernel_rfl) (by rfl) ?_ ?_ HRF.out
            · (intro W hW hK; go_simp; first | done | with_reducible rfl)
            try simp only [Act.put, List.setIfInBounds_toArray, List.set_cons_zero, List.set_cons_succ]
            refine Flow.val _ 19 (some 70) (Op.pick (Operand.tmp 60) (Operand.const (Value.bool true)) (Operand.tmp 69)) 4 (none) [] (Value.bool false) rfl (by kernel_rfl) (by kernel_rfl) (by kernel_rfl) (by rfl) ?_ ?_ HRF.out
            · (intro W hW hK; go_simp; first | done | with_reducible rfl)
            try simp only [Act.put, List.setIfInBounds_toArray, List.set_cons_zero, List.set_cons_succ]
            refine Flow.val _ 20 (some 71) (Op.move (Operand.tmp 70)) 4 (none) [] (Value.bool false) rfl (by kernel_rfl) (by kernel_rfl) (by kernel_rfl) (by rfl) ?_ ?_ HRF.out
            · (intro W hW hK; go_simp; first | done | with_reducible rfl)
            try simp only [Act.put, List.setIfInBounds_toArray, List.set_cons_zero, List.set_cons_succ]
            refine Flow.val _ 21 (some 72) (Op.move (Operand.tmp 0)) 22 (some (20, false)) [] (Value.slice A l.length c) rfl (by kernel_rfl) (by kernel_rfl) (by kernel_rfl) (by rfl) ?_ ?_ HRF.out
            · (intro W hW hK; go_simp; first | done | with_reducible rfl)
            try simp only [Act.put, List.setIfInBounds_toArray, List.set_cons_zero, List.set_cons_succ]
            refine Flow.val _ 22 (some 73) (Op.load 35 (Operand.tmp 7)) 35 (some (20, false)) [] (Value.agg #[.string m0, .string ⟨#[61]⟩, .string m2]) rfl (by kernel_rfl) (by kernel_rfl) (by kernel_rfl) (by rfl) ?_ ?_ HRF.out
            · (intro W hW hK; have hF := SF1.out W hW; go_simp; first | done | with_reducible rfl)
            try simp only [Act.put, List.setIfInBounds_toArray, List.set_cons_zero, List.set_cons_succ]
            refine Flow.op _ 23 (some 74) (Op.buildSlice 33 1 #[(0, Operand.tmp 73)]) 33 (some (20, false)) [] _ _ rfl (by kernel_rfl) (by kernel_rfl) (by kernel_rfl) ⟨_, 0, rfl⟩ ?_ (by rfl) ?_ ?_
            · rintro u W W' hu ⟨q, hv, hq⟩; exact ⟨q, hv, Kd.C_below hq hu⟩
            · intro W hW hK; exact .inl ⟨_, _, ⟨_, rfl⟩, HJA.out _ _ hW, below_alloc (Below.refl _ _) _, ⟨_, rfl, mrow_one W (⟨m0, ⟨#[61]⟩, m2⟩ : S35)⟩, exec_build1M (by rfl)⟩
            rintro u23 ⟨q23, rfl⟩
            try simp only [Act.put, List.setIfInBounds_toArray, List.set_cons_zero, List.set_cons_succ]
            refine Flow.call _ 24 (some 75) (Op.call { callee := Callee.value (Operand.func 20), args := #[Operand.tmp 72, Operand.tmp 74], argTypes := #[22, 33] }) 4 (some (20, false)) [23] (Value.bool true) 20 #[.slice A l.length c, .slice (some ⟨q23, 0, none⟩) 1 1] rfl (by kernel_rfl) (by kernel_rfl) (by kernel_rfl) (by rfl) ?_ ?_ ?_
            · (intro W; go_simp; first | done | with_reducible rfl)
            · intro W hW hK; have h0 := hK 23 (by simp); simp [updK] at h0; have h1 := HCL.out W q23 (⟨m0, ⟨#[61]⟩, m2⟩ : S35) hW h0; rw [HM1.out] at h1; exact h1
            try simp only [Act.put, List.setIfInBounds_toArray, List.set_cons_zero, List.set_cons_succ]
            refine Flow.val _ 25 (some 76) (Op.move (Operand.tmp 75)) 4 (some (20, false)) [] (Value.bool true) rfl (by kernel_rfl) (by kernel_rfl) (by kernel_rfl) (by rfl) ?_ ?_ HRF.out
            · (intro W hW hK; go_simp; first | done | with_reducible rfl)
            try simp only [Act.put, List.setIfInBounds_toArray, List.set_cons_zero, List.set_cons_succ]
            refine Flow.val _ 26 (some 77) (Op.move (Operand.tmp 0)) 22 (some (25, true)) [] (Value.slice A l.length c) rfl (by kernel_rfl) (by kernel_rfl) (by kernel_rfl) (by rfl) ?_ ?_ HRF.out
            · (intro W hW hK; go_simp; first | done | with_reducible rfl)
            try simp only [Act.put, List.setIfInBounds_toArray, List.set_cons_zero, List.set_cons_succ]
            refine Flow.val _ 27 (some 78) (Op.load 35 (Operand.tmp 9)) 35 (some (25, true)) [] (Value.agg #[.string m0, .string ⟨#[94, 61]⟩, .string m2]) rfl (by kernel_rfl) (by kernel_rfl) (by kernel_rfl) (by rfl) ?_ ?_ HRF.out
            · (intro W hW hK; have hF := SF3.out W hW; go_simp; first | done | with_reducible rfl)
            try simp only [Act.put, List.setIfInBounds_toArray, List.set_cons_zero, List.set_cons_succ]
            refine Flow.op _ 28 (some 79) (Op.buildSlice 33 1 #[(0, Operand.tmp 78)]) 33 (some (25, true)) [] _ _ rfl (by kernel_rfl) (by kernel_rfl) (by kernel_rfl) ⟨_, 0, rfl⟩ ?_ (by rfl) ?_ ?_
            · rintro u W W' hu ⟨q, hv, hq⟩; exact ⟨q, hv, Kd.C_below hq hu⟩
            · intro W hW hK; exact .inl ⟨_, _, ⟨_, rfl⟩, HJA.out _ _ hW, below_alloc (Below.refl _ _) _, ⟨_, rfl, mrow_one W (⟨m0, ⟨#[94, 61]⟩, m2⟩ : S35)⟩, exec_build1M (by rfl)⟩
            rintro u28 ⟨q28, rfl⟩
            try simp only [Act.put, List.setIfInBounds_toArray, List.set_cons_zero, List.set_cons_succ]
            refine Flow.call _ 29 (some 80) (Op.call { callee := Callee.value (Operand.func 20), args := #[Operand.tmp 77, Operand.tmp 79], argTypes := #[22, 33] }) 4 (some (25, true)) [28] (Value.bool true) 20 #[.slice A l.length c, .slice (some ⟨q28, 0, none⟩) 1 1] rfl (by kernel_rfl) (by kernel_rfl) (by kernel_rfl) (by rfl) ?_ ?_ ?_
            · (intro W; go_simp; first | done | with_reducible rfl)
            · intro W hW hK; have h0 := hK 28 (by simp); simp [updK] at h0; have h1 := HCL.out W q28 (⟨m0, ⟨#[94, 61]⟩, m2⟩ : S35) hW h0; rw [HM3.out] at h1; exact h1
            try simp only [Act.put, List.setIfInBounds_toArray, List.set_cons_zero, List.set_cons_succ]
            refine Flow.val _ 30 (some 81) (Op.unOp UnOp.not 4 (Operand.tmp 80)) 4 (some (25, true)) [] (Value.bool false) rfl (by kernel_rfl) (by kernel_rfl) (by kernel_rfl) (by rfl) ?_ ?_ HRF.out
            · (intro W hW hK; go_simp; first | done | with_reducible rfl)
            try simp only [Act.put, List.setIfInBounds_toArray, List.set_cons_zero, List.set_cons_succ]
            refine Flow.val _ 31 (some 82) (Op.pick (Operand.tmp 76) (Operand.tmp 81) (Operand.const (Value.bool false))) 4 (some (20, false)) [] (Value.bool false) rfl (by kernel_rfl) (by kernel_rfl) (by kernel_rfl) (by rfl) ?_ ?_ HRF.out
            · (intro W hW hK; go_simp; first | done | with_reducible rfl)
            try simp only [Act.put, List.setIfInBounds_toArray, List.set_cons_zero, List.set_cons_succ]
            refine Flow.val _ 32 (some 83) (Op.pick (Operand.tmp 71) (Operand.const (Value.bool true)) (Operand.tmp 82)) 4 (none) [] (Value.bool false) rfl (by kernel_rfl) (by kernel_rfl) (by kernel_rfl) (by rfl) ?_ ?_ HRF.out
            · (intro W hW hK; go_simp; first | done | with_reducible rfl)
            try simp only [Act.put, List.setIfInBounds_toArray, List.set_cons_zero, List.set_cons_succ]
            refine Flow.done _ (by kernel_rfl) ?_
            intro W5 hW hK
            have HB5 : Aside0 (Below v4.heap.size v4 W5) := ⟨HJD.out _ hW⟩
            clear hK hW SF1 SF2 SF3 SF4 HCL HJD HDJ HJA HRF
            go_wp2_with fail
            all_goals (go_meet; exact ⟨rfl, HB5⟩)
          | false =>
            cases p3 with
            | true =>
              refine wp_region_flow (by kernel_rfl) (by kernel_rfl) Jnv (fun W W' => Below W.heap.size W W') HRF.out (HDJ.out _ (below_drew1 (Below.refl _ _))) [(0, (fun u => u = Value.slice A l.length c), (fun _ _ => True)), (1, (fun u => u = Value.agg #[.string m0, .string ⟨#[61]⟩, .string m2]), (fun _ _ => True)), (2, (fun u => ∃ b : Nat, u = Value.slice (some ⟨b, 0, none⟩) 1 1), (fun u W => ∃ b : Nat, u = Value.slice (some ⟨b, 0, none⟩) 1 1 ∧ Kd.C k35 W (some ⟨b, 0, none⟩) 1 [(⟨m0, ⟨#[61]⟩, m2⟩ : S35)])), (3, (fun u => u = Value.bool false), (fun _ _ => True)), (4, (fun u => u = Value.slice A l.length c), (fun _ _ => True)), (5, (fun u => u = Value.agg #[.string m0, .string ⟨#[33, 61]⟩, .string m2]), (fun _ _ => True)), (6, (fun u => ∃ b : Nat, u = Value.slice (some ⟨b, 0, none⟩) 1 1), (fun u W => ∃ b : Nat, u = Value.slice (some ⟨b, 0, none⟩) 1 1 ∧ Kd.C k35 W (some ⟨b, 0, none⟩) 1 [(⟨m0, ⟨#[33, 61]⟩, m2⟩ : S35)])), (7, (fun u => u = Value.bool true), (fun _ _ => True)), (8, (fun u => u = Value.bool false), (fun _ _ => True)), (9, (fun u => u = Value.bool false), (fun _ _ => True)), (10, (fun u => u = Value.slice A l.length c), (fun _ _ => True)), (11, (fun u => u = Value.agg #[.string m0, .string ⟨#[94, 61]⟩, .string m2]), (fun _ _ => True)), (12, (fun u => ∃ b : Nat, u = Value.slice (some ⟨b, 0, none⟩) 1 1), (fun u W => ∃ b : Nat, u = Value.slice (some ⟨b, 0, none⟩) 1 1 ∧ Kd.C k35 W (some ⟨b, 0, none⟩) 1 [(⟨m0, ⟨#[94, 61]⟩, m2⟩ : S35)])), (13, (fun u => u = Value.bool true), (fun _ _ => True)), (14, (fun u => u = Value.slice A l.length c), (fun _ _ => True)), (15, (fun u => u = Value.agg #[.string m0, .string ⟨#[33, 94]⟩, .string m2]), (fun _ _ => True)), (16, (fun u => ∃ b : Nat, u = Value.slice (some ⟨b, 0, none⟩) 1 1), (fun u W => ∃ b : Nat, u = Value.slice (some ⟨b, 0, none⟩) 1 1 ∧ Kd.C k35 W (some ⟨b, 0, none⟩) 1 [(⟨m0, ⟨#[33, 94]⟩, m2⟩ : S35)])), (17, (fun u => u = Value.bool false), (fun _ _ => True)), (18, (fun u => u = Value.bool false), (fun _ _ => True)), (19, (fun u => u = Value.bool false), (fun _ _ => True)), (20, (fun u => u = Value.bool false), (fun _ _ => True)), (21, (fun u => u = Value.slice A l.length c), (fun _ _ => True)), (22, (fun u => u = Value.agg #[.string m0, .string ⟨#[61]⟩, .string m2]), (fun _ _ => True)), (23, (fun u => ∃ b : Nat, u = Value.slice (some ⟨b, 0, none⟩) 1 1), (fun u W => ∃ b : Nat, u = Value.slice (some ⟨b, 0, none⟩) 1 1 ∧ Kd.C k35 W (some ⟨b, 0, none⟩) 1 [(⟨m0, ⟨#[61]⟩, m2⟩ : S35)])), (24, (fun u => u = Value.bool false), (fun _ _ => True)), (25, (fun u => u = Value.bool false), (fun _ _ => True)), (26, (fun u => u = undef), (fun _ _ => True)), (27, (fun u => u = undef), (fun _ _ => True)), (28, (fun u => u = undef), (fun _ _ => True)), (29, (fun u => u = undef), (fun _ _ => True)), (30, (fun u => u = undef), (fun _ _ => True)), (31, (fun u => u = Value.bool false), (fun _ _ => True)), (32, (fun u => u = Value.bool false), (fun _ _ => True))] ?_
              refine Flow.val _ 0 (some 51) (Op.move (Operand.tmp 0)) 22 (none) [] (Value.slice A l.length c) rfl (by kernel_rfl) (by kernel_rfl) (by kernel_rfl) (by rfl) ?_ ?_ HRF.out
              · (intro W hW hK; go_simp; first | done | with_reducible rfl)
              try simp only [Act.put, List.setIfInBounds_toArray, List.set_cons_zero, List.set_cons_succ]
              refine Flow.val _ 1 (some 52) (Op.load 35 (Operand.tmp 7)) 35 (none) [] (Value.agg #[.string m0, .string ⟨#[61]⟩, .string m2]) rfl (by kernel_rfl) (by kernel_rfl) (by kernel_rfl) (by rfl) ?_ ?_ HRF.out
              · (intro W hW hK; have hF := SF1.out W hW; go_simp; first | done | with_reducible rfl)
              try simp only [Act.put, List.setIfInBounds_toArray, List.set_cons_zero, List.set_cons_succ]
              refine Flow.op _ 2 (some 53) (Op.buildSlice 33 1 #[(0, Operand.tmp 52)]) 33 (none) [] _ _ rfl (by kernel_rfl) (by kernel_rfl) (by kernel_rfl) ⟨_, 0, rfl⟩ ?_ (by rfl) ?_ ?_
              · rintro u W W' hu ⟨q, hv, hq⟩; exact ⟨q, hv, Kd.C_below hq hu⟩
              · intro W hW hK; exact .inl ⟨_, _, ⟨_, rfl⟩, HJA.out _ _ hW, below_alloc (Below.refl _ _) _, ⟨_, rfl, mrow_one W (⟨m0, ⟨#[61]⟩, m2⟩ : S35)⟩, exec_build1M (by rfl)⟩
              rintro u2 ⟨q2, rfl⟩
              try simp only [Act.put, List.setIfInBounds_toArray, List.set_cons_zero, List.set_cons_succ]
              refine Flow.call _ 3 (some 54) (Op.call { callee := Callee.value (Operand.func 20), args := #[Operand.tmp 51, Operand.tmp 53], argTypes := #[22, 33] }) 4 (none) [2] (Value.bool false) 20 #[.slice A l.length c, .slice (some ⟨q2, 0, none⟩) 1 1] rfl (by kernel_rfl) (by kernel_rfl) (by kernel_rfl) (by rfl) ?_ ?_ ?_
              · (intro W; go_simp; first | done | with_reducible rfl)
              · intro W hW hK; have h0 := hK 2 (by simp); simp [updK] at h0; have h1 := HCL.out W q2 (⟨m0, ⟨#[61]⟩, m2⟩ : S35) hW h0; rw [HM1.out] at h1; exact h1
              try simp only [Act.put, List.setIfInBounds_toArray, List.set_cons_zero, List.set_cons_succ]
              refine Flow.val _ 4 (some 55) (Op.move (Operand.tmp 0)) 22 (none) [] (Value.slice A l.length c) rfl (by kernel_rfl) (by kernel_rfl) (by kernel_rfl) (by rfl) ?_ ?_ HRF.out
              · (intro W hW hK; go_simp; first | done | with_reducible rfl)
              try simp only [Act.put, List.setIfInBounds_toArray, List.set_cons_zero, List.set_cons_succ]
              refine Flow.val _ 5 (some 56) (Op.load 35 (Operand.tmp 8)) 35 (none) [] (Value.agg #[.string m0, .string ⟨#[33, 61]⟩, .string m2]) rfl (by kernel_rfl) (by kernel_rfl) (by kernel_rfl) (by rfl) ?_ ?_ HRF.out
              · (intro W hW hK; have hF := SF2.out W hW; go_simp; first | done | with_reducible rfl)
              try simp only [Act.put, List.setIfInBounds_toArray, List.set_cons_zero, List.set_cons_succ]
              refine Flow.op _ 6 (some 57) (Op.buildSlice 33 1 #[(0, Operand.tmp 56)]) 33 (none) [] _ _ rfl (by kernel_rfl) (by kernel_rfl) (by kernel_rfl) ⟨_, 0, rfl⟩ ?_ (by rfl) ?_ ?_
              · rintro u W W' hu ⟨q, hv, hq⟩; exact ⟨q, hv, Kd.C_below hq hu⟩
              · intro W hW hK; exact .inl ⟨_, _, ⟨_, rfl⟩, HJA.out _ _ hW, below_alloc (Below.refl _ _) _, ⟨_, rfl, mrow_one W (⟨m0, ⟨#[33, 61]⟩, m2⟩ : S35)⟩, exec_build1M (by rfl)⟩
              rintro u6 ⟨q6, rfl⟩
              try simp only [Act.put, List.setIfInBounds_toArray, List.set_cons_zero, List.set_cons_succ]
              refine Flow.call _ 7 (some 58) (Op.call { callee := Callee.value (Operand.func 20), args := #[Operand.tmp 55, Operand.tmp 57], argTypes := #[22, 33] }) 4 (none) [6] (Value.bool true) 20 #[.slice A l.length c, .slice (some ⟨q6, 0, none⟩) 1 1] rfl (by kernel_rfl) (by kernel_rfl) (by kernel_rfl) (by rfl) ?_ ?_ ?_
              · (intro W; go_simp; first | done | with_reducible rfl)
              · intro W hW hK; have h0 := hK 6 (by simp); simp [updK] at h0; have h1 := HCL.out W q6 (⟨m0, ⟨#[33, 61]⟩, m2⟩ : S35) hW h0; rw [HM2.out] at h1; exact h1
              try simp only [Act.put, List.setIfInBounds_toArray, List.set_cons_zero, List.set_cons_succ]
              refine Flow.val _ 8 (some 59) (Op.binOp BinOp.eql 4 (Operand.tmp 54) (Operand.tmp 58) 4) 4 (none) [] (Value.bool false) rfl (by kernel_rfl) (by kernel_rfl) (by kernel_rfl) (by rfl) ?_ ?_ HRF.out
              · (intro W hW hK; go_simp; first | done | with_reducible rfl)
              try simp only [Act.put, List.setIfInBounds_toArray, List.set_cons_zero, List.set_cons_succ]
              refine Flow.val _ 9 (some 60) (Op.move (Operand.tmp 59)) 4 (none) [] (Value.bool false) rfl (by kernel_rfl) (by kernel_rfl) (by kernel_rfl) (by rfl) ?_ ?_ HRF.out
              · (intro W hW hK; go_simp; first | done | with_reducible rfl)
              try simp only [Act.put, List.setIfInBounds_toArray, List.set_cons_zero, List.set_cons_succ]
              refine Flow.val _ 10 (some 61) (Op.move (Operand.tmp 0)) 22 (some (9, false)) [] (Value.slice A l.length c) rfl (by kernel_rfl) (by kernel_rfl) (by kernel_rfl) (by rfl) ?_ ?_ HRF.out
              · (intro W hW hK; go_simp; first | done | with_reducible rfl)
              try simp only [Act.put, List.setIfInBounds_toArray, List.set_cons_zero, List.set_cons_succ]
              refine Flow.val _ 11 (some 62) (Op.load 35 (Operand.tmp 9)) 35 (some (9, false)) [] (Value.agg #[.string m0, .string ⟨#[94, 61]⟩, .string m2]) rfl (by kernel_rfl) (by kernel_rfl) (by kernel_rfl) (by rfl) ?_ ?_ HRF.out
              · (intro W hW hK; have hF := SF3.out W hW; go_simp; first | done | with_reducible rfl)
              try simp only [Act.put, List.setIfInBounds_toArray, List.set_cons_zero, List.set_cons_succ]
              refine Flow.op _ 12 (some 63) (Op.buildSlice 33 1 #[(0, Operand.tmp 62)]) 33 (some (9, false)) [] _ _ rfl (by kernel_rfl) (by kernel_rfl) (by kernel_rfl) ⟨_, 0, rfl⟩ ?_ (by rfl) ?_ ?_
              · rintro u W W' hu ⟨q, hv, hq⟩; exact ⟨q, hv, Kd.C_below hq hu⟩
              · intro W hW hK; exact .inl ⟨_, _, ⟨_, rfl⟩, HJA.out _ _ hW, below_alloc (Below.refl _ _) _, ⟨_, rfl, mrow_one W (⟨m0, ⟨#[94, 61]⟩, m2⟩ : S35)⟩, exec_build1M (by rfl)⟩
              rintro u12 ⟨q12, rfl⟩
              try simp only [Act.put, List.setIfInBounds_toArray, List.set_cons_zero, List.set_cons_succ]
              refine Flow.call _ 13 (some 64) (Op.call { callee := Callee.value (Operand.func 20), args := #[Operand.tmp 61, Operand.tmp 63], argTypes := #[22, 33] }) 4 (some (9, false)) [12] (Value.bool true) 20 #[.slice A l.length c, .slice (some ⟨q12, 0, none⟩) 1 1] rfl (by kernel_rfl) (by kernel_rfl) (by kernel_rfl) (by rfl) ?_ ?_ ?_
              · (intro W; go_simp; first | done | with_reducible rfl)
              · intro W hW hK; have h0 := hK 12 (by simp); simp [updK] at h0; have h1 := HCL.out W q12 (⟨m0, ⟨#[94, 61]⟩, m2⟩ : S35) hW h0; rw [HM3.out] at h1; exact h1
              try simp only [Act.put, List.setIfInBounds_toArray, List.set_cons_zero, List.set_cons_succ]
              refine Flow.val _ 14 (some 65) (Op.move (Operand.tmp 0)) 22 (some (9, false)) [] (Value.slice A l.length c) rfl (by kernel_rfl) (by kernel_rfl) (by kernel_rfl) (by rfl) ?_ ?_ HRF.out
              · (intro W hW hK; go_simp; first | done | with_reducible rfl)
              try simp only [Act.put, List.setIfInBounds_toArray, List.set_cons_zero, List.set_cons_succ]
              refine Flow.val _ 15 (some 66) (Op.load 35 (Operand.tmp 10)) 35 (some (9, false)) [] (Value.agg #[.string m0, .string ⟨#[33, 94]⟩, .string m2]) rfl (by kernel_rfl) (by kernel_rfl) (by kernel_rfl) (by rfl) ?_ ?_ HRF.out
              · (intro W hW hK; have hF := SF4.out W hW; go_simp; first | done | with_reducible rfl)
              try simp only [Act.put, List.setIfInBounds_toArray, List.set_cons_zero, List.set_cons_succ]
              refine Flow.op _ 16 (some 67) (Op.buildSlice 33 1 #[(0, Operand.tmp 66)]) 33 (some (9, false)) [] _ _ rfl (by kernel_rfl) (by kernel_rfl) (by kernel_rfl) ⟨_, 0, rfl⟩ ?_ (by rfl) ?_ ?_
              · rintro u W W' hu ⟨q, hv, hq⟩; exact ⟨q, hv, Kd.C_below hq hu⟩
              · intro W hW hK; exact .inl ⟨_, _, ⟨_, rfl⟩, HJA.out _ _ hW, below_alloc (Below.refl _ _) _, ⟨_, rfl, mrow_one W (⟨m0, ⟨#[33, 94]⟩, m2⟩ : S35)⟩, exec_build1M (by rfl)⟩
              rintro u16 ⟨q16, rfl⟩
              try simp only [Act.put, List.setIfInBounds_toArray, List.set_cons_zero, List.set_cons_succ]
              refine Flow.call _ 17 (some 68) (Op.call { callee := Callee.value (Operand.func 20), args := #[Operand.tmp 65, Operand.tmp 67], argTypes := #[22, 33] }) 4 (some (9, false)) [16] (Value.bool false) 20 #[.slice A l.length c, .slice (some ⟨q16, 0, none⟩) 1 1] rfl (by kernel_rfl) (by kernel_rfl) (by kernel_rfl) (by rfl) ?_ ?_ ?_
              · (intro W; go_simp; first | done | with_reducible rfl)
              · intro W hW hK; have h0 := hK 16 (by simp); simp [updK] at h0; have h1 := HCL.out W q16 (⟨m0, ⟨#[33, 94]⟩, m2⟩ : S35) hW h0; rw [HM4.out] at h1; exact h1
              try simp only [Act.put, List.setIfInBounds_toArray, List.set_cons_zero, List.set_cons_succ]
              refine Flow.val _ 18 (some 69) (Op.binOp BinOp.eql 4 (Operand.tmp 64) (Operand.tmp 68) 4) 4 (some (9, false)) [] (Value.bool false) rfl (by kernel_rfl) (by kernel_rfl) (by kernel_rfl) (by rfl) ?_ ?_ HRF.out
              · (intro W hW hK; go_simp; first | done | with_reducible rfl)
              try simp only [Act.put, List.setIfInBounds_toArray, List.set_cons_zero, List.set_cons_succ]
              refine Flow.val _ 19 (some 70) (Op.pick (Operand.tmp 60) (Operand.const (Value.bool true)) (Operand.tmp 69)) 4 (none) [] (Value.bool false) rfl (by kernel_rfl) (by kernel_rfl) (by kernel_rfl) (by rfl) ?_ ?_ HRF.out
              · (intro W hW hK; go_simp; first | done | with_reducible rfl)
              try simp only [Act.put, List.setIfInBounds_toArray, List.set_cons_zero, List.set_cons_succ]
              refine Flow.val _ 20 (some 71) (Op.move (Operand.tmp 70)) 4 (none) [] (Value.bool false) rfl (by kernel_rfl) (by kernel_rfl) (by kernel_rfl) (by rfl) ?_ ?_ HRF.out
              · (intro W hW hK; go_simp; first | done | with_reducible rfl)
              try simp only [Act.put, List.setIfInBounds_toArray, List.set_cons_zero, List.set_cons_succ]
              refine Flow.val _ 21 (some 72) (Op.move (Operand.tmp 0)) 22 (some (20, false)) [] (Value.slice A l.length c) rfl (by kernel_rfl) (by kernel_rfl) (by kernel_rfl) (by rfl) ?_ ?_ HRF.out
              · (intro W hW hK; go_simp; first | done | with_reducible rfl)
              try simp only [Act.put, List.setIfInBounds_toArray, List.set_cons_zero, List.set_cons_succ]
              refine Flow.val _ 22 (some 73) (Op.load 35 (Operand.tmp 7)) 35 (some (20, false)) [] (Value.agg #[.string m0, .string ⟨#[61]⟩, .string m2]) rfl (by kernel_rfl) (by kernel_rfl) (by kernel_rfl) (by rfl) ?_ ?_ HRF.out
              · (intro W hW hK; have hF := SF1.out W hW; go_simp; first | done | with_reducible rfl)
              try simp only [Act.put, List.setIfInBounds_toArray, List.set_cons_zero, List.set_cons_succ]
              refine Flow.op _ 23 (some 74) (Op.buildSlice 33 1 #[(0, Operand.tmp 73)]) 33 (some (20, false)) [] _ _ rfl (by kernel_rfl) (by kernel_rfl) (by kernel_rfl) ⟨_, 0, rfl⟩ ?_ (by rfl) ?_ ?_
              · rintro u W W' hu ⟨q, hv, hq⟩; exact ⟨q, hv, Kd.C_below hq hu⟩
              · intro W hW hK; exact .inl ⟨_, _, ⟨_, rfl⟩, HJA.out _ _ hW, below_alloc (Below.refl _ _) _, ⟨_, rfl, mrow_one W (⟨m0, ⟨#[61]⟩, m2⟩ : S35)⟩, exec_build1M (by rfl)⟩
              rintro u23 ⟨q23, rfl⟩
              try simp only [Act.put, List.setIfInBounds_toArray, List.set_cons_zero, List.set_cons_succ]
              refine Flow.call _ 24 (some 75) (Op.call { callee := Callee.value (Operand.func 20), args := #[Operand.tmp 72, Operand.tmp 74], argTypes := #[22, 33] }) 4 (some (20, false)) [23] (Value.bool false) 20 #[.slice A l.length c, .slice (some ⟨q23, 0, none⟩) 1 1] rfl (by kernel_rfl) (by kernel_rfl) (by kernel_rfl) (by rfl) ?_ ?_ ?_
              · (intro W; go_simp; first | done | with_reducible rfl)
              · intro W hW hK; have h0 := hK 23 (by simp); simp [updK] at h0; have h1 := HCL.out W q23 (⟨m0, ⟨#[61]⟩, m2⟩ : S35) hW h0; rw [HM1.out] at h1; exact h1
              try simp only [Act.put, List.setIfInBounds_toArray, List.set_cons_zero, List.set_cons_succ]
              refine Flow.val _ 25 (some 76) (Op.move (Operand.tmp 75)) 4 (some (20, false)) [] (Value.bool false) rfl (by kernel_rfl) (by kernel_rfl) (by kernel_rfl) (by rfl) ?_ ?_ HRF.out
              · (intro W hW hK; go_simp; first | done | with_reducible rfl)
              try simp only [Act.put, List.setIfInBounds_toArray, List.set_cons_zero, List.set_cons_succ]
              refine Flow.not _ 26 (some 77) (Op.move (Operand.tmp 0)) 22 (some (25, true)) rfl (by kernel_rfl) (by kernel_rfl) (by rfl) ?_
              try simp only [Act.put, List.setIfInBounds_toArray, List.set_cons_zero, List.set_cons_succ]
              refine Flow.not _ 27 (some 78) (Op.load 35 (Operand.tmp 9)) 35 (some (25, true)) rfl (by kernel_rfl) (by kernel_rfl) (by rfl) ?_
              try simp only [Act.put, List.setIfInBounds_toArray, List.set_cons_zero, List.set_cons_succ]
              refine Flow.not _ 28 (some 79) (Op.buildSlice 33 1 #[(0, Operand.tmp 78)]) 33 (some (25, true)) rfl (by kernel_rfl) (by kernel_rfl) (by rfl) ?_
              try simp only [Act.put, List.setIfInBounds_toArray, List.set_cons_zero, List.set_cons_succ]
              refine Flow.not _ 29 (some 80) (Op.call { callee := Callee.value (Operand.func 20), args := #[Operand.tmp 77, Operand.tmp 79], argTypes := #[22, 33] }) 4 (some (25, true)) rfl (by kernel_rfl) (by kernel_rfl) (by rfl) ?_
              try simp only [Act.put, List.setIfInBounds_toArray, List.set_cons_zero, List.set_cons_succ]
              refine Flow.not _ 30 (some 81) (Op.unOp UnOp.not 4 (Operand.tmp 80)) 4 (some (25, true)) rfl (by kernel_rfl) (by kernel_rfl) (by rfl) ?_
              try simp only [Act.put, List.setIfInBounds_toArray, List.set_cons_zero, List.set_cons_succ]
              refine Flow.val _ 31 (some 82) (Op.pick (Operand.tmp 76) (Operand.tmp 81) (Operand.const (Value.bool false))) 4 (some (20, false)) [] (Value.bool false) rfl (by kernel_rfl) (by kernel_rfl) (by kernel_rfl) (by rfl) ?_ ?_ HRF.out
              · (intro W hW hK; go_simp; first | done | with_reducible rfl)
              try simp only [Act.put, List.setIfInBounds_toArray, List.set_cons_zero, List.set_cons_succ]
              refine Flow.val _ 32 (some 83) (Op.pick (Operand.tmp 71) (Operand.const (Value.bool true)) (Operand.tmp 82)) 4 (none) [] (Value.bool false) rfl (by kernel_rfl) (by kernel_rfl) (by kernel_rfl) (by rfl) ?_ ?_ HRF.out
              · (intro W hW hK; go_simp; first | done | with_reducible rfl)
              try simp only [Act.put, List.setIfInBounds_toArray, List.set_cons_zero, List.set_cons_succ]
              refine Flow.done _ (by kernel_rfl) ?_
              intro W5 hW hK
              have HB5 : Aside0 (Below v4.heap.size v4 W5) := ⟨HJD.out _ hW⟩
              clear hK hW SF1 SF2 SF3 SF4 HCL HJD HDJ HJA HRF
              go_wp2_with fail
              all_goals (go_meet; exact ⟨rfl, HB5⟩)
            | false =>
              refine wp_region_flow (by kernel_rfl) (by kernel_rfl) Jnv (fun W W' => Below W.heap.size W W') HRF.out (HDJ.out _ (below_drew1 (Below.refl _ _))) [(0, (fun u => u = Value.slice A l.length c), (fun _ _ => True)), (1, (fun u => u = Value.agg #[.string m0, .string ⟨#[61]⟩, .string m2]), (fun _ _ => True)), (2, (fun u => ∃ b : Nat, u = Value.slice (some ⟨b, 0, none⟩) 1 1), (fun u W => ∃ b : Nat, u = Value.slice (some ⟨b, 0, none⟩) 1 1 ∧ Kd.C k35 W (some ⟨b, 0, none⟩) 1 [(⟨m0, ⟨#[61]⟩, m2⟩ : S35)])), (3, (fun u => u = Value.bool false), (fun _ _ => True)), (4, (fun u => u = Value.slice A l.length c), (fun _ _ => True)), (5, (fun u => u = Value.agg #[.string m0, .string ⟨#[33, 61]⟩, .string m2]), (fun _ _ => True)), (6, (fun u => ∃ b : Nat, u = Value.slice (some ⟨b, 0, none⟩) 1 1), (fun u W => ∃ b : Nat, u = Value.slice (some ⟨b, 0, none⟩) 1 1 ∧ Kd.C k35 W (some ⟨b, 0, none⟩) 1 [(⟨m0, ⟨#[33, 61]⟩, m2⟩ : S35)])), (7, (fun u => u = Value.bool true), (fun _ _ => True)), (8, (fun u => u = Value.bool false), (fun _ _ => True)), (9, (fun u => u = Value.bool false), (fun _ _ => True)), (10, (fun u => u = Value.slice A l.length c), (fun _ _ => True)), (11, (fun u => u = Value.agg #[.string m0, .string ⟨#[94, 61]⟩, .string m2]), (fun _ _ => True)), (12, (fun u => ∃ b : Nat, u = Value.slice (some ⟨b, 0, none⟩) 1 1), (fun u W => ∃ b : Nat, u = Value.slice (some ⟨b, 0, none⟩) 1 1 ∧ Kd.C k35 W (some ⟨b, 0, none⟩) 1 [(⟨m0, ⟨#[94, 61]⟩, m2⟩ : S35)])), (13, (fun u => u = Value.bool false), (fun _ _ => True)), (14, (fun u => u = Value.slice A l.length c), (fun _ _ => True)), (15, (fun u => u = Value.agg #[.string m0, .string ⟨#[33, 94]⟩, .string m2]), (fun _ _ => True)), (16, (fun u => ∃ b : Nat, u = Value.slice (some ⟨b, 0, none⟩) 1 1), (fun u W => ∃ b : Nat, u = Value.slice (some ⟨b, 0, none⟩) 1 1 ∧ Kd.C k35 W (some ⟨b, 0, none⟩) 1 [(⟨m0, ⟨#[33, 94]⟩, m2⟩ : S35)])), (17, (fun u => u = Value.bool true), (fun _ _ => True)), (18, (fun u => u = Value.bool false), (fun _ _ => True)), (19, (fun u => u = Value.bool false), (fun _ _ => True)), (20, (fun u => u = Value.bool false), (fun _ _ => True)), (21, (fun u => u = Value.slice A l.length c), (fun _ _ => True)), (22, (fun u => u = Value.agg #[.string m0, .string ⟨#[61]⟩, .string m2]), (fun _ _ => True)), (23, (fun u => ∃ b : Nat, u = Value.slice (some ⟨b, 0, none⟩) 1 1), (fun u W => ∃ b : Nat, u = Value.slice (some ⟨b, 0, none⟩) 1 1 ∧ Kd.C k35 W (some ⟨b, 0, none⟩) 1 [(⟨m0, ⟨#[61]⟩, m2⟩ : S35)])), (24, (fun u => u = Value.bool false), (fun _ _ => True)), (25, (fun u => u = Value.bool false), (fun _ _ => True)), (26, (fun u => u = undef), (fun _ _ => True)), (27, (fun u => u = undef), (fun _ _ => True)), (28, (fun u => u = undef), (fun _ _ => True)), (29, (fun u => u = undef), (fun _ _ => True)), (30, (fun u => u = undef), (fun _ _ => True)), (31, (fun u => u = Value.bool false), (fun _ _ => True)), (32, (fun u => u = Value.bool false), (fun _ _ => True))] ?_
              refine Flow.val _ 0 (some 51) (Op.move (Operand.tmp 0)) 22 (none) [] (Value.slice A l.length c) rfl (by kernel_rfl) (by kernel_rfl) (by kernel_rfl) (by rfl) ?_ ?_ HRF.out
              · (intro W hW hK; go_simp; first | done | with_reducible rfl)
              try simp only [Act.put, List.setIfInBounds_toArray, List.set_cons_zero, List.set_cons_succ]
              refine Flow.val _ 1 (some 52) (Op.load 35 (Operand.tmp 7)) 35 (none) [] (Value.agg #[.string m0, .string ⟨#[61]⟩, .string m2]) rfl (by kernel_rfl) (by kernel_rfl) (by kernel_rfl) (by rfl) ?_ ?_ HRF.out
              · (intro W hW hK; have hF := SF1.out W hW; go_simp; first | done | with_reducible rfl)
              try simp only [Act.put, List.setIfInBounds_toArray, List.set_cons_zero, List.set_cons_succ]
              refine Flow.op _ 2 (some 53) (Op.buildSlice 33 1 #[(0, Operand.tmp 52)]) 33 (none) [] _ _ rfl (by kernel_rfl) (by kernel_rfl) (by kernel_rfl) ⟨_, 0, rfl⟩ ?_ (by rfl) ?_ ?_
              · rintro u W W' hu ⟨q, hv, hq⟩; exact ⟨q, hv, Kd.C_below hq hu⟩
              · intro W hW hK; exact .inl ⟨_, _, ⟨_, rfl⟩, HJA.out _ _ hW, below_alloc (Below.refl _ _) _, ⟨_, rfl, mrow_one W (⟨m0, ⟨#[61]⟩, m2⟩ : S35)⟩, exec_build1M (by rfl)⟩
              rintro u2 ⟨q2, rfl⟩
              try simp only [Act.put, List.setIfInBounds_toArray, List.set_cons_zero, List.set_cons_succ]
              refine Flow.call _ 3 (some 54) (Op.call { callee := Callee.value (Operand.func 20), args := #[Operand.tmp 51, Operand.tmp 53], argTypes := #[22, 33] }) 4 (none) [2] (Value.bool false) 20 #[.slice A l.length c, .slice (some ⟨q2, 0, none⟩) 1 1] rfl (by kernel_rfl) (by kernel_rfl) (by kernel_rfl) (by rfl) ?_ ?_ ?_
              · (intro W; go_simp; first | done | with_reducible rfl)
              · intro W hW hK; have h0 := hK 2 (by simp); simp [updK] at h0; have h1 := HCL.out W q2 (⟨m0, ⟨#[61]⟩, m2⟩ : S35) hW h0; rw [HM1.out] at h1; exact h1
              try simp only [Act.put, List.setIfInBounds_toArray, List.set_cons_zero, List.set_cons_succ]
              refine Flow.val _ 4 (some 55) (Op.move (Operand.tmp 0)) 22 (none) [] (Value.slice A l.length c) rfl (by kernel_rfl) (by kernel_rfl) (by kernel_rfl) (by rfl) ?_ ?_ HRF.out
              · (intro W hW hK; go_simp; first | done | with_reducible rfl)
              try simp only [Act.put, List.setIfInBounds_toArray, List.set_cons_zero, List.set_cons_succ]
              refine Flow.val _ 5 (some 56) (Op.load 35 (Operand.tmp 8)) 35 (none) [] (Value.agg #[.string m0, .string ⟨#[33, 61]⟩, .string m2]) rfl (by kernel_rfl) (by kernel_rfl) (by kernel_rfl) (by rfl) ?_ ?_ HRF.out
              · (intro W hW hK; have hF := SF2.out W hW; go_simp; first | done | with_reducible rfl)
              try simp only [Act.put, List.setIfInBounds_toArray, List.set_cons_zero, List.set_cons_succ]
              refine Flow.op _ 6 (some 57) (Op.buildSlice 33 1 #[(0, Operand.tmp 56)]) 33 (none) [] _ _ rfl (by kernel_rfl) (by kernel_rfl) (by kernel_rfl) ⟨_, 0, rfl⟩ ?_ (by rfl) ?_ ?_
              · rintro u W W' hu ⟨q, hv, hq⟩; exact ⟨q, hv, Kd.C_below hq hu⟩
              · intro W hW hK; exact .inl ⟨_, _, ⟨_, rfl⟩, HJA.out _ _ hW, below_alloc (Below.refl _ _) _, ⟨_, rfl, mrow_one W (⟨m0, ⟨#[33, 61]⟩, m2⟩ : S35)⟩, exec_build1M (by rfl)⟩
              rintro u6 ⟨q6, rfl⟩
              try simp only [Act.put, List.setIfInBounds_toArray, List.set_cons_zero, List.set_cons_succ]
              refine Flow.call _ 7 (some 58) (Op.call { callee := Callee.value (Operand.func 20), args := #[Operand.tmp 55, Operand.tmp 57], argTypes := #[22, 33] }) 4 (none) [6] (Value.bool true) 20 #[.slice A l.length c, .slice (some ⟨q6, 0, none⟩) 1 1] rfl (by kernel_rfl) (by kernel_rfl) (by kernel_rfl) (by rfl) ?_ ?_ ?_
              · (intro W; go_simp; first | done | with_reducible rfl)
              · intro W hW hK; have h0 := hK 6 (by simp); simp [updK] at h0; have h1 := HCL.out W q6 (⟨m0, ⟨#[33, 61]⟩, m2⟩ : S35) hW h0; rw [HM2.out] at h1; exact h1
              try simp only [Act.put, List.setIfInBounds_toArray, List.set_cons_zero, List.set_cons_succ]
              refine Flow.val _ 8 (some 59) (Op.binOp BinOp.eql 4 (Operand.tmp 54) (Operand.tmp 58) 4) 4 (none) [] (Value.bool false) rfl (by kernel_rfl) (by kernel_rfl) (by kernel_rfl) (by rfl) ?_ ?_ HRF.out
              · (intro W hW hK; go_simp; first | done | with_reducible rfl)
              try simp only [Act.put, List.setIfInBounds_toArray, List.set_cons_zero, List.set_cons_succ]
              refine Flow.val _ 9 (some 60) (Op.move (Operand.tmp 59)) 4 (none) [] (Value.bool false) rfl (by kernel_rfl) (by kernel_rfl) (by kernel_rfl) (by rfl) ?_ ?_ HRF.out
              · (intro W hW hK; go_simp; first | done | with_reducible rfl)
              try simp only [Act.put, List.setIfInBounds_toArray, List.set_cons_zero, List.set_cons_succ]
              refine Flow.val _ 10 (some 61) (Op.move (Operand.tmp 0)) 22 (some (9, false)) [] (Value.slice A l.length c) rfl (by kernel_rfl) (by kernel_rfl) (by kernel_rfl) (by rfl) ?_ ?_ HRF.out
              · (intro W hW hK; go_simp; first | done | with_reducible rfl)
              try simp only [Act.put, List.setIfInBounds_toArray, List.set_cons_zero, List.set_cons_succ]
              refine Flow.val _ 11 (some 62) (Op.load 35 (Operand.tmp 9)) 35 (some (9, false)) [] (Value.agg #[.string m0, .string ⟨#[94, 61]⟩, .string m2]) rfl (by kernel_rfl) (by kernel_rfl) (by kernel_rfl) (by rfl) ?_ ?_ HRF.out
              · (intro W hW hK; have hF := SF3.out W hW; go_simp; first | done | with_reducible rfl)
              try simp only [Act.put, List.setIfInBounds_toArray, List.set_cons_zero, List.set_cons_succ]
              refine Flow.op _ 12 (some 63) (Op.buildSlice 33 1 #[(0, Operand.tmp 62)]) 33 (some (9, false)) [] _ _ rfl (by kernel_rfl) (by kernel_rfl) (by kernel_rfl) ⟨_, 0, rfl⟩ ?_ (by rfl) ?_ ?_
              · rintro u W W' hu ⟨q, hv, hq⟩; exact ⟨q, hv, Kd.C_below hq hu⟩
              · intro W hW hK; exact .inl ⟨_, _, ⟨_, rfl⟩, HJA.out _ _ hW, below_alloc (Below.refl _ _) _, ⟨_, rfl, mrow_one W (⟨m0, ⟨#[94, 61]⟩, m2⟩ : S35)⟩, exec_build1M (by rfl)⟩
              rintro u12 ⟨q12, rfl⟩
              try simp only [Act.put, List.setIfInBounds_toArray, List.set_cons_zero, List.set_cons_succ]
              refine Flow.call _ 13 (some 64) (Op.call { callee := Callee.value (Operand.func 20), args := #[Operand.tmp 61, Operand.tmp 63], argTypes := #[22, 33] }) 4 (some (9, false)) [12] (Value.bool false) 20 #[.slice A l.length c, .slice (some ⟨q12, 0, none⟩) 1 1] rfl (by kernel_rfl) (by kernel_rfl) (by kernel_rfl) (by rfl) ?_ ?_ ?_
              · (intro W; go_simp; first | done | with_reducible rfl)
              · intro W hW hK; have h0 := hK 12 (by simp); simp [updK] at h0; have h1 := HCL.out W q12 (⟨m0, ⟨#[94, 61]⟩, m2⟩ : S35) hW h0; rw [HM3.out] at h1; exact h1
              try simp only [Act.put, List.setIfInBounds_toArray, List.set_cons_zero, List.set_cons_succ]
              refine Flow.val _ 14 (some 65) (Op.move (Operand.tmp 0)) 22 (some (9, false)) [] (Value.slice A l.length c) rfl (by kernel_rfl) (by kernel_rfl) (by kernel_rfl) (by rfl) ?_ ?_ HRF.out
              · (intro W hW hK; go_simp; first | done | with_reducible rfl)
              try simp only [Act.put, List.setIfInBounds_toArray, List.set_cons_zero, List.set_cons_succ]
              refine Flow.val _ 15 (some 66) (Op.load 35 (Operand.tmp 10)) 35 (some (9, false)) [] (Value.agg #[.string m0, .string ⟨#[33, 94]⟩, .string m2]) rfl (by kernel_rfl) (by kernel_rfl) (by kernel_rfl) (by rfl) ?_ ?_ HRF.out
              · (intro W hW hK; have hF := SF4.out W hW; go_simp; first | done | with_reducible rfl)
              try simp only [Act.put, List.setIfInBounds_toArray, List.set_cons_zero, List.set_cons_succ]
              refine Flow.op _ 16 (some 67) (Op.buildSlice 33 1 #[(0, Operand.tmp 66)]) 33 (some (9, false)) [] _ _ rfl (by kernel_rfl) (by kernel_rfl) (by kernel_rfl) ⟨_, 0, rfl⟩ ?_ (by rfl) ?_ ?_
              · rintro u W W' hu ⟨q, hv, hq⟩; exact ⟨q, hv, Kd.C_below hq hu⟩
              · intro W hW hK; exact .inl ⟨_, _, ⟨_, rfl⟩, HJA.out _ _ hW, below_alloc (Below.refl _ _) _, ⟨_, rfl, mrow_one W (⟨m0, ⟨#[33, 94]⟩, m2⟩ : S35)⟩, exec_build1M (by rfl)⟩
              rintro u16 ⟨q16, rfl⟩
              try simp only [Act.put, List.setIfInBounds_toArray, List.set_cons_zero, List.set_cons_succ]
              refine Flow.call _ 17 (some 68) (Op.call { callee := Callee.value (Operand.func 20), args := #[Operand.tmp 65, Operand.tmp 67], argTypes := #[22, 33] }) 4 (some (9, false)) [16] (Value.bool true) 20 #[.slice A l.length c, .slice (some ⟨q16, 0, none⟩) 1 1] rfl (by kernel_rfl) (by kernel_rfl) (by kernel_rfl) (by rfl) ?_ ?_ ?_
              · (intro W; go_simp; first | done | with_reducible rfl)
              · intro W hW hK; have h0 := hK 16 (by simp); simp [updK] at h0; have h1 := HCL.out W q16 (⟨m0, ⟨#[33, 94]⟩, m2⟩ : S35) hW h0; rw [HM4.out] at h1; exact h1
              try simp only [Act.put, List.setIfInBounds_toArray, List.set_cons_zero, List.set_cons_succ]
              refine Flow.val _ 18 (some 69) (Op.binOp BinOp.eql 4 (Operand.tmp 64) (Operand.tmp 68) 4) 4 (some (9, false)) [] (Value.bool false) rfl (by kernel_rfl) (by kernel_rfl) (by kernel_rfl) (by rfl) ?_ ?_ HRF.out
              · (intro W hW hK; go_simp; first | done | with_reducible rfl)
              try simp only [Act.put, List.setIfInBounds_toArray, List.set_cons_zero, List.set_cons_succ]
              refine Flow.val _ 19 (some 70) (Op.pick (Operand.tmp 60) (Operand.const (Value.bool true)) (Operand.tmp 69)) 4 (none) [] (Value.bool false) rfl (by kernel_rfl) (by kernel_rfl) (by kernel_rfl) (by rfl) ?_ ?_ HRF.out
              · (intro W hW hK; go_simp; first | done | with_reducible rfl)
              try simp only [Act.put, List.setIfInBounds_toArray, List.set_cons_zero, List.set_cons_succ]
              refine Flow.val _ 20 (some 71) (Op.move (Operand.tmp 70)) 4 (none) [] (Value.bool false) rfl (by kernel_rfl) (by kernel_rfl) (by kernel_rfl) (by rfl) ?_ ?_ HRF.out
              · (intro W hW hK; go_simp; first | done | with_reducible rfl)
              try simp only [Act.put, List.setIfInBounds_toArray, List.set_cons_zero, List.set_cons_succ]
              refine Flow.val _ 21 (some 72) (Op.move (Operand.tmp 0)) 22 (some (20, false)) [] (Value.slice A l.length c) rfl (by kernel_rfl) (by kernel_rfl) (by kernel_rfl) (by rfl) ?_ ?_ HRF.out
              · (intro W hW hK; go_simp; first | done | with_reducible rfl)
              try simp only [Act.put, List.setIfInBounds_toArray, List.set_cons_zero, List.set_cons_succ]
              refine Flow.val _ 22 (some 73) (Op.load 35 (Operand.tmp 7)) 35 (some (20, false)) [] (Value.agg #[.string m0, .string ⟨#[61]⟩, .string m2]) rfl (by kernel_rfl) (by kernel_rfl) (by kernel_rfl) (by rfl) ?_ ?_ HRF.out
              · (intro W hW hK; have hF := SF1.out W hW; go_simp; first | done | with_reducible rfl)
              try simp only [Act.put, List.setIfInBounds_toArray, List.set_cons_zero, List.set_cons_succ]
              refine Flow.op _ 23 (some 74) (Op.buildSlice 33 1 #[(0, Operand.tmp 73)]) 33 (some (20, false)) [] _ _ rfl (by kernel_rfl) (by kernel_rfl) (by kernel_rfl) ⟨_, 0, rfl⟩ ?_ (by rfl) ?_ ?_
              · rintro u W W' hu ⟨q, hv, hq⟩; exact ⟨q, hv, Kd.C_below hq hu⟩
              · intro W hW hK; exact .inl ⟨_, _, ⟨_, rfl⟩, HJA.out _ _ hW, below_alloc (Below.refl _ _) _, ⟨_, rfl, mrow_one W (⟨m0, ⟨#[61]⟩, m2⟩ : S35)⟩, exec_build1M (by rfl)⟩
              rintro u23 ⟨q23, rfl⟩
              try simp only [Act.put, List.setIfInBounds_toArray, List.set_cons_zero, List.set_cons_succ]
              refine Flow.call _ 24 (some 75) (Op.call { callee := Callee.value (Operand.func 20), args := #[Operand.tmp 72, Operand.tmp 74], argTypes := #[22, 33] }) 4 (some (20, false)) [23] (Value.bool false) 20 #[.slice A l.length c, .slice (some ⟨q23, 0, none⟩) 1 1] rfl (by kernel_rfl) (by kernel_rfl) (by kernel_rfl) (by rfl) ?_ ?_ ?_
              · (intro W; go_simp; first | done | with_reducible rfl)
              · intro W hW hK; have h0 := hK 23 (by simp); simp [updK] at h0; have h1 := HCL.out W q23 (⟨m0, ⟨#[61]⟩, m2⟩ : S35) hW h0; rw [HM1.out] at h1; exact h1
              try simp only [Act.put, List.setIfInBounds_toArray, List.set_cons_zero, List.set_cons_succ]
              refine Flow.val _ 25 (some 76) (Op.move (Operand.tmp 75)) 4 (some (20, false)) [] (Value.bool false) rfl (by kernel_rfl) (by kernel_rfl) (by kernel_rfl) (by rfl) ?_ ?_ HRF.out
              · (intro W hW hK; go_simp; first | done | with_reducible rfl)
              try simp only [Act.put, List.setIfInBounds_toArray, List.set_cons_zero, List.set_cons_succ]
              refine Flow.not _ 26 (some 77) (Op.move (Operand.tmp 0)) 22 (some (25, true)) rfl (by kernel_rfl) (by kernel_rfl) (by rfl) ?_
              try simp only [Act.put, List.setIfInBounds_toArray, List.set_cons_zero, List.set_cons_succ]
              refine Flow.not _ 27 (some 78) (Op.load 35 (Operand.tmp 9)) 35 (some (25, true)) rfl (by kernel_rfl) (by kernel_rfl) (by rfl) ?_
              try simp only [Act.put, List.setIfInBounds_toArray, List.set_cons_zero, List.set_cons_succ]
              refine Flow.not _ 28 (some 79) (Op.buildSlice 33 1 #[(0, Operand.tmp 78)]) 33 (some (25, true)) rfl (by kernel_rfl) (by kernel_rfl) (by rfl) ?_
              try simp only [Act.put, List.setIfInBounds_toArray, List.set_cons_zero, List.set_cons_succ]
              refine Flow.not _ 29 (some 80) (Op.call { callee := Callee.value (Operand.func 20), args := #[Operand.tmp 77, Operand.tmp 79], argTypes := #[22, 33] }) 4 (some (25, true)) rfl (by kernel_rfl) (by kernel_rfl) (by rfl) ?_
              try simp only [Act.put, List.setIfInBounds_toArray, List.set_cons_zero, List.set_cons_succ]
              refine Flow.not _ 30 (some 81) (Op.unOp UnOp.not 4 (Operand.tmp 80)) 4 (some (25, true)) rfl (by kernel_rfl) (by kernel_rfl) (by rfl) ?_
              try simp only [Act.put, List.setIfInBounds_toArray, List.set_cons_zero, List.set_cons_succ]
              refine Flow.val _ 31 (some 82) (Op.pick (Operand.tmp 76) (Operand.tmp 81) (Operand.const (Value.bool false))) 4 (some (20, false)) [] (Value.bool false) rfl (by kernel_rfl) (by kernel_rfl) (by kernel_rfl) (by rfl) ?_ ?_ HRF.out
              · (intro W hW hK; go_simp; first | done | with_reducible rfl)
              try simp only [Act.put, List.setIfInBounds_toArray, List.set_cons_zero, List.set_cons_succ]
              refine Flow.val _ 32 (some 83) (Op.pick (Operand.tmp 71) (Operand.const (Value.bool true)) (Operand.tmp 82)) 4 (none) [] (Value.bool false) rfl (by kernel_rfl) (by kernel_rfl) (by kernel_rfl) (by rfl) ?_ ?_ HRF.out
              · (intro W hW hK; go_simp; first | done | with_reducible rfl)
              try simp only [Act.put, List.setIfInBounds_toArray, List.set_cons_zero, List.set_cons_succ]
              refine Flow.done _ (by kernel_rfl) ?_
              intro W5 hW hK
              have HB5 : Aside0 (Below v4.heap.size v4 W5) := ⟨HJD.out _ hW⟩
              clear hK hW SF1 SF2 SF3 SF4 HCL HJD HDJ HJA HRF
              go_wp2_with fail
              all_goals (go_meet; exact ⟨rfl, HB5⟩)
        case rest =>
        obtain ⟨rfl, HBX⟩ := hcut
        obtain ⟨v5, hv5⟩ : ∃ W, W = wc := ⟨_, rfl⟩
        rw [← hv5] at HBX ⊢
        have HBv5 := Aside0.mk (below_then HBv4.out HBv4.out.size HBX.out)
        clear hv5 HCL HJD HDJ HJA HRF
        have h1 := blk_below HK14.out HBX.out
        have HK15 := Aside0.mk h1
        have HB05 : Aside0 (v5.heap[b0]? = some (.cells #[.string m0, .string m1, .string m2] 35 (0, 0))) := ⟨blk_below HBLK.out (below_then (below_step (below_step (below_step HBL1.out HBL2.out) HBL3.out) HBL4.out) (below_step (below_step (below_step HBL1.out HBL2.out) HBL3.out) HBL4.out).size HBX.out)⟩
        have d0 : v5.cell? ⟨b0, 0, none⟩ = some (.string m0) := by rw [blk_cell HB05.out]; rfl
        clear h1
        go_wp2_with fail
        refine (match_calls A c l none 0 [] v5 (Kd.C_below HR.out HBv5.out) ⟨rfl, by decide, fun h => by simp at h⟩).mono ?_
        rintro e v6 ⟨rfl, hb6⟩
        have d06 := pw_cell_below hb6 d0
        have HBv6 := Aside0.mk (below_step HBv5.out hb6)
        have HK16 := Aside0.mk (blk_below HK15.out hb6)
        clear hb6 d0
        go_wp2_with fail
        refine (match_calls A c l (some ⟨v6.heap.size, 0, none⟩) 1 [⟨m0, ⟨#[94, 61]⟩, ⟨#[]⟩⟩] _ (Kd.C_alloc (Kd.C_below HR.out HBv6.out) _) (mrow_one v6 ⟨m0, ⟨#[94, 61]⟩, ⟨#[]⟩⟩)).mono ?_
        rintro e v7 ⟨rfl, hb7⟩
        rw [match_one_be, hpf_empty]
        have HBv7 := Aside0.mk (below_step (below_alloc HBv6.out _) hb7)
        have HK17 := Aside0.mk (blk_below HK16.out (below_then (below_alloc (Below.refl v6.heap.size v6) _) (below_alloc (Below.refl v6.heap.size v6) _).size hb7))
        clear hb7 d06
        have HALL : Aside0 (matchL l (more ++ [(⟨m0, ⟨#[61]⟩, m2⟩ : S35)]) = (matchL l more && p1)) := ⟨by rw [HP1.out]; unfold matchL; rw [List.all_append]⟩
        obtain ⟨pm, hpm⟩ : ∃ b, b = matchL l more := ⟨_, rfl⟩
        have HPM := Aside0.mk hpm
        rw [← hpm] at HALL
        clear hpm
        go_upto_region 11 with (fail)
        go_cut [11] from 96 (fun s wx => s = .bool (pm && p1) ∧ Aside0 (Below v7.heap.size v7 wx))
        case first =>
          obtain ⟨Jnv, hJnv⟩ : ∃ J : World → Prop, J = fun W' => Below v7.heap.size v7 W' := ⟨_, rfl⟩
          have HJD : Aside0 (∀ W', Jnv W' → Below v7.heap.size v7 W') := ⟨fun W' h => by rw [hJnv] at h; exact h⟩
          have HDJ : Aside0 (∀ W', Below v7.heap.size v7 W' → Jnv W') := ⟨fun W' h => by rw [hJnv]; exact h⟩
          have HJA : Aside0 (∀ W' o, Jnv W' → Jnv (W'.alloc o)) := ⟨fun W' o h => HDJ.out _ (below_alloc (HJD.out _ h) o)⟩
          have HRF : Aside0 (∀ W : World, Below W.heap.size W W) := ⟨fun W => Below.refl _ _⟩
          have SF : Aside0 (∀ W', Jnv W' → W'.cell? ⟨e1, 0, none⟩ = some (.string m0) ∧ W'.cell? ⟨e1, 1, none⟩ = some (.string ⟨#[61]⟩) ∧ W'.cell? ⟨e1, 2, none⟩ = some (.string m2)) := ⟨fun W' hW => by
            have h := blk_below HK17.out (HJD.out W' hW)
            exact ⟨by rw [blk_cell h]; rfl, by rw [blk_cell h]; rfl, by rw [blk_cell h]; rfl⟩⟩
          have HC2 : Aside0 (∀ W', Jnv W' → Kd.C k35 W' A2 more.length more) := ⟨fun W' hW => Kd.C_below HR2.out (below_then HBv7.out HBv7.out.size (HJD.out _ hW))⟩
          have hmore : more.length ≤ 60 := by omega
          have HMORE := Aside0.mk hmore
          have HMT : Aside0 (∀ (W' : World) (v : Value), Jnv W' → Kd.R k35 35 W' v7.heap.size (fun _ => True) v (more ++ [(⟨m0, ⟨#[61]⟩, m2⟩ : S35)]) → Calls Tryz.prog 20 #[.slice A l.length c, v] W' fun e w' => e = .returned (.bool (pm && p1)) ∧ Jnv w' ∧ Below W'.heap.size W' w') := ⟨fun W' v hW hv => by
            obtain ⟨A9, c9, rfl, -, hC9⟩ := Kd.R_reads hv
            refine (match_calls A c l A9 c9 _ W' (Kd.C_below HR.out (below_then HBv7.out HBv7.out.size (HJD.out _ hW))) hC9).mono ?_
            rintro e w' ⟨he, hb⟩
            exact ⟨by rw [he, HALL.out], HDJ.out _ (below_step (HJD.out _ hW) hb), hb⟩⟩
          clear hJnv hmore
          refine wp_region_any (by kernel_rfl) ?_
          have hW : Jnv v7.drew := HDJ.out _ (below_drew (Below.refl _ _))
          refine wpAny_flow3 (by kernel_rfl) Jnv (fun W W' => Below W.heap.size W W') (fun _ _ => True) 6 (fun k => k == 1 || k == 3 || k == 5) HRF.out (fun _ => trivial) hW (by kernel_rfl) [(0, (fun u => u = Value.slice A l.length c), (fun _ _ => True)), (1, (fun u => ∃ b : Nat, u = Value.slice (some ⟨b, 0, none⟩) 0 0), (fun u W => ∃ b : Nat, u = Value.slice (some ⟨b, 0, none⟩) 0 0 ∧ v7.heap.size ≤ b ∧ W.heap[b]? = some (Obj.cells #[] 35 (0, 0)))), (2, (fun u => u = Value.slice A2 more.length c2), (fun _ _ => True)), (3, (fun _ => True), (fun u W => Kd.R k35 35 W v7.heap.size (fun _ => True) u more)), (4, (fun u => u = Value.agg #[.string m0, .string ⟨#[61]⟩, .string m2]), (fun _ _ => True)), (5, (fun u => ∃ b : Nat, u = Value.slice (some ⟨b, 0, none⟩) 1 1), (fun u W => ∃ b : Nat, u = Value.slice (some ⟨b, 0, none⟩) 1 1 ∧ Kd.C k35 W (some ⟨b, 0, none⟩) 1 [(⟨m0, ⟨#[61]⟩, m2⟩ : S35)])), (6, (fun _ => True), (fun u W => Kd.R k35 35 W v7.heap.size (fun _ => True) u (more ++ [(⟨m0, ⟨#[61]⟩, m2⟩ : S35)]))), (7, (fun u => u = Value.bool (pm && p1)), (fun _ _ => True)), (8, (fun u => u = Value.bool (pm && p1)), (fun _ _ => True))] ?_
          refine Flow3.val _ 0 (some 96) (Op.move (Operand.tmp 0)) 22 (none) [] _ rfl (by kernel_rfl) (by kernel_rfl) (by kernel_rfl) (by rfl) (by rfl) ?_ ?_ HRF.out (fun _ => trivial)
          · (intro W hW hK; go_simp; first | done | with_reducible rfl)
          try simp only [Act.put, List.setIfInBounds_toArray, List.set_cons_zero, List.set_cons_succ]
          refine Flow3.op _ 1 (some 97) (Op.buildSlice 33 0 #[]) 33 (none) [] _ _ rfl (by kernel_rfl) (by kernel_rfl) (by kernel_rfl) (by rfl) ⟨_, 0, rfl⟩ ?_ ?_ (by rfl) ?_ ?_
          · rintro v W W' hu ⟨q, hv, hq, hb⟩; exact ⟨q, hv, hq, blk_below hb hu⟩
          · intro hd; exact absurd hd (by decide)
          · rw [upOf_ne (by decide)]; intro W hW hK; exact .inl ⟨_, _, ⟨_, rfl⟩, HJA.out _ _ hW, below_alloc (Below.refl _ _) _, ⟨_, rfl, (HJD.out _ hW).size, blk_new W _⟩, exec_build0M⟩
          rintro u1 ⟨q1, rfl⟩
          try simp only [Act.put, List.setIfInBounds_toArray, List.set_cons_zero, List.set_cons_succ]
          refine Flow3.val _ 2 (some 98) (Op.move (Operand.tmp 2)) 33 (none) [] _ rfl (by kernel_rfl) (by kernel_rfl) (by kernel_rfl) (by rfl) (by rfl) ?_ ?_ HRF.out (fun _ => trivial)
          · (intro W hW hK; go_simp; first | done | with_reducible rfl)
          try simp only [Act.put, List.setIfInBounds_toArray, List.set_cons_zero, List.set_cons_succ]
          refine Flow3.op _ 3 (some 99) (Op.call { callee := Callee.builtin Builtin.append, args := #[Operand.tmp 97, Operand.tmp 98], argTypes := #[33, 33] }) 33 (none) [1] _ _ rfl (by kernel_rfl) (by kernel_rfl) (by kernel_rfl) (by rfl) ⟨undef, trivial⟩ ?_ ?_ (by rfl) ?_ ?_
          · intro v W W' hu hr; exact Kd.R_below hr hu
          · intro hd; exact absurd hd (by decide)
          · rw [upOf_ne (by decide)]
            intro W hW hK
            have h0 := hK 1 (by simp)
            simp [updK] at h0
            obtain ⟨hq, hb⟩ := h0
            obtain ⟨v1, W1, hr, hR, hB⟩ := append_emptyM W v7.heap.size 33 q1 more A2 c2 hb hq (HJD.out _ hW).size (HC2.out _ hW) (by have := HMORE.out; omega)
            exact .inl ⟨v1, W1, trivial, HDJ.out _ (below_then (HJD.out _ hW) (HJD.out _ hW).size hB), hB, hR, exec_appendM (by rfl) (by rfl) hr⟩
          intro u3 _
          try simp only [Act.put, List.setIfInBounds_toArray, List.set_cons_zero, List.set_cons_succ]
          refine Flow3.val _ 4 (some 100) (Op.load 35 (Operand.tmp 7)) 35 (none) [] _ rfl (by kernel_rfl) (by kernel_rfl) (by kernel_rfl) (by rfl) (by rfl) ?_ ?_ HRF.out (fun _ => trivial)
          · (intro W hW hK; have hF := SF.out W hW; go_simp; first | done | with_reducible rfl)
          try simp only [Act.put, List.setIfInBounds_toArray, List.set_cons_zero, List.set_cons_succ]
          refine Flow3.op _ 5 (some 101) (Op.buildSlice 33 1 #[(0, Operand.tmp 100)]) 33 (none) [] _ _ rfl (by kernel_rfl) (by kernel_rfl) (by kernel_rfl) (by rfl) ⟨_, 0, rfl⟩ ?_ ?_ (by rfl) ?_ ?_
          · rintro v W W' hu ⟨q, hv, hq⟩; exact ⟨q, hv, Kd.C_below hq hu⟩
          · intro hd; exact absurd hd (by decide)
          · rw [upOf_ne (by decide)]; intro W hW hK; exact .inl ⟨_, _, ⟨_, rfl⟩, HJA.out _ _ hW, below_alloc (Below.refl _ _) _, ⟨_, rfl, mrow_one W (⟨m0, ⟨#[61]⟩, m2⟩ : S35)⟩, exec_build1M (by rfl)⟩
          rintro u5 ⟨q5, rfl⟩
          try simp only [Act.put, List.setIfInBounds_toArray, List.set_cons_zero, List.set_cons_succ]
          refine Flow3.op _ 6 (some 102) (Op.call { callee := Callee.builtin Builtin.append, args := #[Operand.tmp 99, Operand.tmp 101], argTypes := #[33, 33] }) 33 (none) [3, 5] _ _ rfl (by kernel_rfl) (by kernel_rfl) (by kernel_rfl) (by rfl) ⟨undef, trivial⟩ ?_ ?_ (by rfl) ?_ ?_
          · intro v W W' hu hr; exact Kd.R_below hr hu
          · intro _ hd; exact absurd rfl hd
          · rw [upOf_eq]
            intro W hW hK
            have h3 := hK 3 (by simp)
            have h5 := hK 5 (by simp)
            simp [updK] at h3 h5
            obtain ⟨v1, W1, hr, hR, hG, _⟩ := append_runM W v7.heap.size 33 u3 more [(⟨m0, ⟨#[61]⟩, m2⟩ : S35)] (some ⟨q5, 0, none⟩) 1 h3 h5 (HJD.out _ hW).size (by have := HMORE.out; simp; omega)
            exact .inl ⟨v1, W1, trivial, HDJ.out _ (below_grown (HJD.out _ hW) hG (fun k hk => own_base h3.2.choose_spec.1 k hk)), trivial, hR, exec_appendM (by rfl) (by rfl) hr⟩
          intro u6 _
          try simp only [Act.put, List.setIfInBounds_toArray, List.set_cons_zero, List.set_cons_succ]
          refine Flow3.op _ 7 (some 103) (Op.call { callee := Callee.value (Operand.func 20), args := #[Operand.tmp 96, Operand.tmp 102], argTypes := #[22, 33] }) 4 (none) [6] _ _ rfl (by kernel_rfl) (by kernel_rfl) (by kernel_rfl) (by rfl) ⟨_, rfl⟩ (fun _ _ _ _ h => h) (fun _ _ _ _ _ _ h => h) (by rfl) ?_ ?_
          · rw [upOf_ne (by decide)]
            intro W hW hK
            have h0 := hK 6 (by simp)
            simp [updK] at h0
            refine .inr ⟨20, #[.slice A l.length c, u6], by (go_simp; first | done | with_reducible rfl), ?_⟩
            refine (HMT.out W u6 hW h0).mono ?_
            rintro e w' ⟨rfl, h1, h2⟩
            exact ⟨_, rfl, rfl, h1, h2, trivial⟩
          rintro u7 rfl
          try simp only [Act.put, List.setIfInBounds_toArray, List.set_cons_zero, List.set_cons_succ]
          refine Flow3.val _ 8 (some 11) (Op.assign (Operand.tmp 103)) 4 (none) [] _ rfl (by kernel_rfl) (by kernel_rfl) (by kernel_rfl) (by rfl) (by rfl) ?_ ?_ HRF.out (fun _ => trivial)
          · (intro W hW hK; go_simp; first | done | with_reducible rfl)
          try simp only [Act.put, List.setIfInBounds_toArray, List.set_cons_zero, List.set_cons_succ]
          refine Flow3.done _ (by kernel_rfl) ?_
          intro W5 hW hK
          have HB5 : Aside0 (Below v7.heap.size v7 W5) := ⟨HJD.out _ hW⟩
          clear hK hW SF HC2 HMT HJD HDJ HJA HRF
          go_wp2_with fail
          all_goals (go_meet; exact ⟨rfl, HB5⟩)
        case rest =>
        obtain ⟨rfl, HBX7⟩ := hcut
        obtain ⟨v8, hv8⟩ : ∃ W, W = wc := ⟨_, rfl⟩
        rw [← hv8] at HBX7 ⊢
        have HBv8 := Aside0.mk (below_then HBv7.out HBv7.out.size HBX7.out)
        have hk8 := blk_below HK17.out HBX7.out
        have d80 : v8.cell? ⟨e1, 0, none⟩ = some (.string m0) := by rw [blk_cell hk8]; rfl
        have d81 : v8.cell? ⟨e1, 1, none⟩ = some (.string ⟨#[61]⟩) := by rw [blk_cell hk8]; rfl
        have d82 : v8.cell? ⟨e1, 2, none⟩ = some (.string m2) := by rw [blk_cell hk8]; rfl
        clear hv8 hk8
        go_wp2_with fail
        refine (match_calls A c l A2 c2 more v8 (Kd.C_below HR.out HBv8.out) (Kd.C_below HR2.out HBv8.out)).mono ?_
        rintro e v9 ⟨rfl, hb9⟩
        rw [← HPM.out]
        have d90 := pw_cell_below hb9 d80
        have d91 := pw_cell_below hb9 d81
        have d92 := pw_cell_below hb9 d82
        have HBv9 := Aside0.mk (below_step HBv8.out hb9)
        clear hb9 d80 d81 d82
        cases pm with
        | true =>
          go_wp2_with fail
          refine (match_calls A c l (some ⟨v9.heap.size, 0, none⟩) 1 [(⟨m0, ⟨#[61]⟩, m2⟩ : S35)] _ (Kd.C_alloc (Kd.C_below HR.out HBv9.out) _) (mrow_one v9 (⟨m0, ⟨#[61]⟩, m2⟩ : S35))).mono ?_
          rintro e v10 ⟨rfl, hb10⟩
          rw [← HP1.out]
          have HBv10 := Aside0.mk (below_step (below_alloc HBv9.out _) hb10)
          clear hb10
          cases p1
          all_goals go_wp2_with fail
          all_goals refine (live_calls v10).mono ?_
          all_goals rintro e v11 ⟨rfl, hb11⟩
          all_goals have HBv11 := Aside0.mk (below_step HBv10.out hb11)
          all_goals clear hb11
          all_goals go_wp2_with fail
          all_goals go_ret
          all_goals exact ⟨rfl, HBv11.out⟩
        | false =>
          go_wp2_with fail
          refine (live_calls v9).mono ?_
          rintro e v11 ⟨rfl, hb11⟩
          have HBv11 := Aside0.mk (below_step HBv9.out hb11)
          clear hb11
          go_wp2_with fail
          go_ret
          exact ⟨rfl, HBv11.out⟩
theorem ask_row (A : Option Addr) (c : Nat) (l : List S47) (cs : Array Value) (m : S35) (A2 : Option Addr) (c2 : Nat) (more : List S35) (W : World)
    (hr : Kd.C k47 W A l.length l) (hK : k35.K W m cs.toList) (hr2 : Kd.C k35 W A2 more.length more) (w0 : l.length * 32 ≤ 140737488351232 ∧ ∀ y ∈ l, y.f0.size ≤ 140737488351232 ∧ y.f1.size ≤ 140737488351232) (w1 : m.f0.size ≤ 140737488351232 ∧ m.f1.size ≤ 140737488351232 ∧ m.f2.size ≤ 140737488351232) :
    Calls Tryz.prog 5 #[.slice A l.length c, .agg cs, .slice A2 more.length c2] W fun e w' => e = .returned (.bool true) ∧ Below W.heap.size W w' := by
  have h := k35_open hK
  obtain rfl : cs = #[.string m.f0, .string m.f1, .string m.f2] := by cases cs; simp_all
  exact ask_calls A c l m.f0 m.f1 m.f2 A2 c2 more W hr hr2 w0.2 ⟨w1.1, w1.2.2⟩
end Go.Proofs.YtjhgckpcadngaaaGreatK
