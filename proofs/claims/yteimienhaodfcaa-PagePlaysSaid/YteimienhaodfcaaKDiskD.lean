/- The disk's settle and Sync, walked. -/
import Derived.Test.YteimienhaodfcaaKDiskC
import Derived.Test.YteimienhaodfcaaKClone
import Derived.Deep.QuietTactic
import Derived.BigQuiet
import Derived.Lib.AppendZerosOnto
import Derived.Lib.SliceRun
import Derived.Lib.Walk
namespace Go.Proofs.YteimienhaodfcaaK
open Go.RowKit Go.Proofs.YteimienhaodfcaaW.PrintWords Go.Proofs.YteimienhaodfcaaW.PrintLast Go.Proofs.YteimienhaodfcaaW.PrintMore Go.Crc
open Go.ChangeMaps (setBlock)
attribute [local go_sem] max2_int min2_int max_two min_two
set_option linter.unusedVariables false
set_option linter.unusedSimpArgs false
variable {w w' : World} {X X' S : Nat → Prop} {d sb mb clock : Nat} {es : Array MapEntry} {safe : List Int} {D : Dk}
theorem Frm.row (W : World) (g : Nat) (cs : Array Value) : Frm (fun k => k = g) W (W.setRow g cs) := ⟨rfl, rfl, rfl, by simp [World.setRow], fun k _ hk => setRow_other W g k cs hk⟩
theorem copy_frm (W : World) (g o m cd : Nat) (A : Option Addr) (L l : List Int) (c : Nat) (hb : Blk W g l) (hr : Kd.C (Kd.int .u8) W A L.length L) (hm : L.length ≤ m) (hl : o + L.length ≤ l.length) :
    ∃ W', (Builtin.copy_ #[33, 33] 3 #[.slice (some ⟨g, o, none⟩) m cd, .slice A L.length c]).run Try.prog W = .ok (.int .i64 L.length) W' ∧ Blk W' g (l.take o ++ (L ++ l.drop (o + L.length))) ∧ Frm (fun k => k = g) W W' := by
  by_cases h0 : L.length = 0
  · obtain rfl : L = [] := List.eq_nil_of_length_eq_zero h0
    exact ⟨W, run_copy_none W 33 33 3 5 _ A m cd 0 c Try.underlying33 sizeByte (by simp), by simpa using hb, Frm.refl _ _⟩
  · obtain ⟨ad, rfl, hrd⟩ := hr.2.2 (by omega)
    have := run_copy_row (P := Try.prog) W 33 33 3 5 g o m cd ad L.length c _ 5 (L.map (Value.int .u8)) Try.underlying33 sizeByte hb (by simp only [List.length_map]; exact (Nat.min_eq_left hm).symm) (fun j v hv => ?_) (by simpa using hl) (fun v hv => ?_)
    · rw [List.length_map] at this
      refine ⟨_, this, ?_, Frm.row _ _ _⟩
      unfold Blk
      rw [setRow_heap W g _ _ 5 (0, 0) hb]
      simp [List.map_take, List.map_drop]
    · rw [List.getElem?_map] at hv
      obtain ⟨p, hp, rfl⟩ := Option.map_eq_some_iff.mp hv
      obtain ⟨cs, h1, h2, h3⟩ := hrd j p hp
      obtain rfl : cs = [.int .u8 p] := h2
      have h4 := h3 0 _ rfl
      rwa [show j * (Kd.int .u8).sz + 0 = j from Nat.mul_one j] at h4
    · obtain ⟨x, _, rfl⟩ := List.mem_map.mp hv; rfl
theorem SetI.parts (h : DParts w X d sb mb es clock safe D) {f : Nat → Nat} {r : Nat} {seen : Array Nat} {s : List Int} {W W' : World} (hI : SetI w D f sb mb r es clock seen s W) {S : Nat → Prop} (hF : Frm S W W') (hS : ∀ k, S k → w.heap.size ≤ k) : DParts W' X d sb mb es clock s { D with sec := fun n => secOf s D.size n } := by
  obtain ⟨n1, n2, n3⟩ := h.ne_m
  have hW : Frm (fun k => k = sb) w W' := hI.frm.then_ hF fun k hk => .inr (hS k hk)
  refine ⟨hW.blk h.hd h.nd, hF.blk hI.blk (fun e => by have := hS _ e; have := blk_lt h.hs; omega), hW.blk h.hm (fun e => n2 e.symm), hI.len, fun _ _ => rfl, hI.byt, h.st, fun e he => ?_, h.all, h.xd, h.xs, h.xm, h.b1, h.b2, h.b3, h.b4, h.lb, h.nd⟩
  obtain ⟨n, l, b, x⟩ := h.ent e he
  exact ⟨n, l, b, { x with blk := hW.blk x.blk x.ne }⟩
set_option maxHeartbeats 1000000 in
set_option maxRecDepth 100000 in
theorem settle_calls (h : DParts w X d sb mb es clock safe D) (g : Nat) (lb : Array Value) (hgo : ∀ (args : Array Value) (W : World), (callFunc g args).run Try.prog W = .ok (.enter g args) W) (f : Nat → Nat) (hfn : ∀ n, f n ≤ D.size)
    (hf : ∀ (W : World) (n : Nat), Frm (fun k => k = sb) w W → n < D.sectors → Calls Try.prog g (#[.int .i64 (n : Int)] ++ lb) W fun e w' => e = .returned (.int .i64 (f n : Int)) ∧ Below W.heap.size W w') :
    Calls Try.prog 58 #[.pointer (some ⟨d, 0, none⟩), .func (.func g) #[] lb] w fun e w' => e = .returned (.tuple #[]) ∧ DAt w' X d (D.settle f) ∧ Frm X w w' := by
  obtain ⟨c0, k1, k2, k3, k4, k5, k6⟩ := h.cells
  have HD := Aside0.mk h; have HF := Aside0.mk hf; have HN := Aside0.mk hfn
  have hm := h.hm
  clear h hf hfn
  go_enter Try.func58, Try.ntmps58
  go_wp2_with (at_range; refine wpList_range_raw w rfl _ 98 rfl 3 33 Try.underlying98 mb es clock rfl hm ?_)
  go_frame
  have hmlt := blk_lt hm
  have HI0 : SetI w D f sb mb w.heap.size es clock #[] safe (w.alloc (.mapIter (some mb) clock #[] clock)) := ⟨blk_new w _, (Frm.refl _ w).alloc _, (Frm.refl (fun k => k = mb) w).alloc (.mapIter (some mb) clock #[] clock) |>.blk HD.out.hs (fun e => HD.out.ne_m.2.1 e), HD.out.len, HD.out.byt, fun x hx n hk hs => by simp at hs, fun n hn _ => HD.out.sec n hn⟩
  have HI0' := Aside0.mk HI0
  clear HI0
  go_loopg [4] es.size (fun kq v4 W => ∃ (seen : Array Nat) (s : List Int), Aside0 (SetI w D f sb mb w.heap.size es clock seen s W) ∧ Aside0 (kq = (leftOf es seen).size))
  case atStart => exact ⟨#[], safe, HI0', ⟨by rw [show leftOf es #[] = es from Array.filter_eq_self.2 (by simp)]⟩⟩
  case round =>
    obtain ⟨seen, s, HI, HK⟩ := hrel
    have hmw : wr.heap[mb]? = some (.map es clock) := HI.out.frm.blk HD.out.hm (fun e => HD.out.ne_m.2.1 e.symm)
    have hst := HD.out.st
    have hit := HI.out.it
    go_wp2_with (at_next; refine wpList_next_raw wr rfl _ rfl w.heap.size mb seen es clock rfl hit hmw hst ?_ ?_)
    · intro h0
      have H0 := Aside0.mk h0
      clear h0
      have hdw := HI.out.frm.blk HD.out.hd HD.out.nd
      have q3 : wr.cell? ⟨d, 3, none⟩ = some (.map (some mb)) := by rw [blk_cell hdw]; rfl
      have hcl : ∀ ty, (Builtin.clear_ #[98] ty #[.map (some mb)]).run Try.prog wr = .ok (.tuple #[]) (setBlock wr mb (.map #[] clock)) := fun ty => map_clear (P := Try.prog) Try.underlying98 hmw
      clear hdw hst hit hmw
      go_wp2
      first | go_end0 | ((try simp only [Exit.inBlock, Exit.then]); refine bodyPost_ret (results_none rfl _ _ _) rfl ?_)
      obtain ⟨r1, r2⟩ := HI.out.done HD.out (by rw [H0.out]; rfl) (Nat.le_refl _)
      exact ⟨rfl, ⟨_, _, _, _, _, r1⟩, r2⟩
    · intro x w1 hx0 hit1 hmap1 hfrm1 hsz1 hen
      have hx : x ∈ (leftOf es seen).toList := by simpa using hx0
      obtain ⟨n, l, b, he⟩ := HD.out.ent x (mem_left hx).1
      rw [he.key, he.val] at hen ⊢
      have HX := Aside0.mk hx; have HE := Aside0.mk he; have HF1 := Aside0.mk hfrm1; have HZ := Aside0.mk hsz1
      have HP1 := Aside0.mk (HI.out.parts HD.out hfrm1 (fun k hk => by omega))
      clear hx hx0 he hfrm1 hsz1 hst hit hmw
      go_wp2_with fail
      refine (at_calls HP1.out n HE.out.lt).mono ?_
      rintro e w2 ⟨rfl, hd2⟩
      have HB2 := Aside0.mk hd2.below
      have hit2 := blk_below hit1 hd2.below
      clear hd2 hen
      go_wp2_with fail
      refine (HF.out w2 n ((HI.out.frm.then_ HF1.out fun k hk => .inr (by omega)).step HB2.out) HE.out.lt).mono ?_
      rintro e w3 ⟨rfl, hb3⟩
      have hit3 := Aside0.mk (blk_below hit2 hb3)
      clear hit1 hit2 hmap1
      have HL : Aside0 ((l.take (f n)).length = f n) := ⟨by rw [List.length_take, HE.out.len]; have := HN.out n; omega⟩
      have hF3 : Frm (fun k => k = w.heap.size ∨ wr.heap.size ≤ k) wr w3 := ((HF1.out.mono fun k hk => .inl hk).step HB2.out).step hb3
      have hW3 : Frm (fun k => k = sb) w w3 := HI.out.frm.then_ hF3 fun k hk => .inr (by have := HI.out.frm.size; omega)
      have hsblt : sb < w.heap.size := blk_lt HD.out.hs
      have hbs : Blk w3 sb s := hF3.blk HI.out.blk (by have := HI.out.frm.size; omega)
      have hbb : Blk w3 b l := hW3.blk HE.out.blk HE.out.ne
      obtain ⟨hb1, hb2⟩ := sector_bounds HD.out HE.out.lt
      have hfl := HN.out n
      have hb4 := HD.out.b4
      have hlen := HE.out.len
      have hC : Kd.C (Kd.int .u8) w3 (some ⟨b, 0, none⟩) (l.take (f n)).length (l.take (f n)) := by
        have := blk_C hbb (by omega) 0 (f n) (by omega)
        rw [HL.out]; simpa using this
      obtain ⟨W4, hcp, hblk4, hB4⟩ := copy_frm w3 sb (n * D.size) D.size (D.sectors * D.size - n * D.size) (some ⟨b, 0, none⟩) (l.take (f n)) s D.size hbs hC (by rw [HL.out]; omega) (by rw [HI.out.len, HL.out]; omega)
      rw [HL.out] at hcp
      have HW4 := Aside0.mk (And.intro hF3 (And.intro hW3 (And.intro hblk4 hB4)))
      clear hF3 hW3 hbs hbb hb1 hb2 hC hblk4 hB4 hlen hb3
      go_wp2_with fail
      have hmu := left_shrinks es seen x HX.out
      have HM := Aside0.mk hmu
      clear hmu
      go_roundg ((leftOf es (seen.push x.born)).size)
      case measure => have := HM.out; have := HK.out; omega
      case rel =>
        obtain ⟨hF3, hW3, hblk4, hB4⟩ := HW4.out
        refine ⟨seen.push x.born, wrS s (l.take (f n)) (n * D.size), ⟨?_⟩, ⟨rfl⟩⟩
        exact SetI.step HD.out HN.out HI.out HX.out HE.out (hB4.blk hit3.out (fun e => by omega)) (hW3.then_ hB4 fun k hk => .inl hk) hblk4
namespace Dk
def synced (D : Dk) : Dk := if D.beginE = 0 then D.begun.settle (fun _ => D.size) else D.begun
end Dk
theorem enters {P : Program} {f : FuncId} {fn : Func} {c : Code} (hf : P.funcs[f]? = some fn) (hname : (fn.name == "runtime.NumGoroutine") = false) (hb : fn.body = some c) : ∀ (args : Array Value) (W : World), (callFunc f args).run P W = .ok (.enter f args) W := by
  intro args w
  have h1 : fn.name ≠ "runtime.NumGoroutine" := by simpa using hname
  simp [callFunc, hf, h1, hb, mark]
set_option maxHeartbeats 400000 in
theorem sync1_calls (n : Int) (B d z : Nat) (w : World) (hB : w.cell? ⟨B, 0, none⟩ = some (.pointer (some ⟨d, 0, none⟩))) (hd : w.cell? ⟨d, 1, none⟩ = some (.int .i64 (z : Int))) : Calls Try.prog 59 #[.int .i64 n, .pointer (some ⟨B, 0, none⟩)] w fun e w' => e = .returned (.int .i64 (z : Int)) ∧ Drawn0 w w' := by
  go_enter Try.func59, Try.ntmps59
  go_wp2
  go_ret
  exact ⟨rfl, by repeat (first | exact Drawn0.refl _ | apply Drawn0.step)⟩
theorem sync_nil (w : World) : Calls Try.prog 19 #[.pointer none] w fun e w' => e = .returned (.int .i64 7) ∧ Below w.heap.size w w' := by
  go_enter Try.func19, Try.ntmps19
  go_wp2
  go_ret
  exact ⟨rfl, by repeat (first | (with_reducible first | exact Below.refl _ _ | apply below_alloc | apply pw_below_drewN | apply below_drew1) | exact Below.refl _ _)⟩
set_option maxHeartbeats 1000000 in
set_option maxRecDepth 100000 in
theorem sync_calls (h : DParts w X d sb mb es clock safe D) : Calls Try.prog 19 #[.pointer (some ⟨d, 0, none⟩)] w fun e w' => e = .returned (.int .i64 D.beginE) ∧ DAt w' X d D.synced ∧ Frm X w w' := by
  have HD := Aside0.mk h
  clear h
  go_enter Try.func19, Try.ntmps19
  have hB1 : Below w.heap.size w (w.alloc (.cells #[.pointer (some ⟨d, 0, none⟩)] 27)) := below_alloc (Below.refl _ _) _
  have HD1 := Aside0.mk (HD.out.frm (S := fun _ => False) (Frm.of_below hB1) (fun _ _ h => h))
  have HB1 := Aside0.mk hB1
  have hblt : d < w.heap.size := blk_lt HD.out.hd
  have hslt : sb < w.heap.size := blk_lt HD.out.hs
  have hbx := blk_new w (.cells #[.pointer (some ⟨d, 0, none⟩)] 27)
  clear hB1
  obtain ⟨W1, hW1⟩ : ∃ W, W = (w.alloc (.cells #[.pointer (some ⟨d, 0, none⟩)] 27)) := ⟨_, rfl⟩
  go_wp2_with fail
  rw [← hW1] at HD1 HB1 hbx ⊢
  have q0 : W1.cell? ⟨w.heap.size, 0, none⟩ = some (.pointer (some ⟨d, 0, none⟩)) := by rw [blk_cell hbx]; rfl
  clear hW1
  refine (begin_calls HD1.out).mono ?_
  rintro e w2 ⟨rfl, hD2, hf2, hs2⟩
  have hbx2 := hf2.blk hbx (fun e => by omega)
  have HF2 := Aside0.mk ((Frm.of_below (S := X) HB1.out).then_ hf2 fun k hk => by subst hk; exact .inl HD.out.xd)
  have HD2 := Aside0.mk hD2
  have HX2 := Aside0.mk hbx2
  have p0 : w2.cell? ⟨w.heap.size, 0, none⟩ = some (.pointer (some ⟨d, 0, none⟩)) := by rw [blk_cell hbx2]; rfl
  clear hD2 hf2 hs2 q0 hbx hbx2
  by_cases he : D.beginE = 0
  · have HE := Aside0.mk he
    rw [he]
    clear he
    go_wp2_with fail
    refine (settle_calls HD2.out 59 #[.pointer (some ⟨w.heap.size, 0, none⟩)] (enters Try.func59 (by kernel_rfl) rfl) (fun _ => D.size) (fun _ => by rw [D.begun_size]; exact Nat.le_refl _) ?_).mono ?_
    · intro W n hF hn
      refine (sync1_calls _ _ d D.size W ?_ ?_).mono ?_
      · exact (blk_cell (hF.blk HX2.out (fun e => by omega)) 0).trans rfl
      · have := (HD2.out.cells).2.1
        rw [D.begun_size] at this
        exact (blk_cell (hF.blk HD2.out.hd HD2.out.nd) 1).trans (by rw [D.begun_size]; rfl)
      · rintro e w' ⟨rfl, hd⟩; exact ⟨rfl, hd.below⟩
    · rintro e w3 ⟨rfl, hD3, hf3⟩
      have H3 := Aside0.mk (And.intro hD3 hf3)
      clear hD3 hf3
      go_wp2_with fail
      go_ret
      refine ⟨by rw [HE.out]; rfl, ?_, HF2.out.then_ H3.out.2 fun k hk => .inl hk⟩
      rw [show D.synced = D.begun.settle (fun _ => D.size) by simp [Dk.synced, HE.out]]; exact H3.out.1
  · have HE := Aside0.mk he
    have de : (D.beginE == 0) = false := by simpa using he
    clear he
    go_wp2_with fail
    go_ret
    refine ⟨rfl, ?_, HF2.out⟩
    rw [show D.synced = D.begun by simp [Dk.synced, HE.out]]
    exact ⟨_, _, _, _, _, HD2.out⟩
end Go.Proofs.YteimienhaodfcaaK
