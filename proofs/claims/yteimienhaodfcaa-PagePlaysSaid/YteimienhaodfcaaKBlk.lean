/- Blocks of bytes: laid, copied, made; page.Room, page.lay walked. -/
import Derived.Test.YteimienhaodfcaaProg
import Derived.Below
import Derived.Deep.Draws
import Derived.Deep.AppendLies
import Derived.Maps.AppendAt
import Derived.OwnWalk
import Derived.Laws.BytesArg
import Derived.Laws.MakeOwn
import Derived.Laws.OwnMore
import Derived.Deep.OwnRows
import Derived.Tactics
import Derived.Lib.ConvBytes
import Derived.Laws.Slices
import Derived.WalkKit
import Derived.KernelRfl
import Derived.RowKit3
import Derived.Deep.LoopGhost
import Derived.Deep.QuietTactic
import Derived.BigQuiet
import Derived.WideLaws
import Derived.Deep.DeepCutAuto
import Derived.Deep.CutBlock
import Derived.Deep.RegionHeld3
import Derived.Laws.Rows
import Derived.Lib.AppendStr
import Derived.ArgAppend
import Derived.Laws.IdiomCopy
import Derived.OrdersHeld
import Derived.Laws.BitsLemmas
import Derived.RowKit
import Derived.Test.YteimienhaodfcaaWWords
import Derived.Test.YteimienhaodfcaaWLast
import Derived.Test.YteimienhaodfcaaWTab
import Derived.Test.YteimienhaodfcaaWFour
import Derived.Test.YteimienhaodfcaaWQPut
import Derived.Test.YteimienhaodfcaaWApart
import Derived.Test.YteimienhaodfcaaWArr
import Derived.Test.YteimienhaodfcaaWZeros
import Derived.Test.YteimienhaodfcaaWFoot
import Derived.Test.YteimienhaodfcaaWKept
import Derived.Test.YteimienhaodfcaaWShare
import Derived.Test.YteimienhaodfcaaWN
import Derived.Test.YteimienhaodfcaaWFootNe
import Derived.Test.YteimienhaodfcaaWAt
import Derived.Test.YteimienhaodfcaaWEqStruct
import Derived.Test.YteimienhaodfcaaWRepsOne
import Derived.Test.YteimienhaodfcaaWInv
import Derived.Test.YteimienhaodfcaaWInvWords
import Derived.Test.YteimienhaodfcaaWGuard
import Derived.Test.YteimienhaodfcaaWNEv
import Derived.Test.YteimienhaodfcaaWMore
import Derived.Deep.RegionWith
import Derived.Deep.QuietTactic
import Derived.BigQuiet
import Derived.Deep.CutRange
import Derived.Deep.DeepCutAuto
import Derived.Laws.CopyOwn
import Derived.Test.YteimienhaodfcaaKMark
namespace Go.Proofs.YteimienhaodfcaaK
open Go.RowKit Go.Proofs.YteimienhaodfcaaW.PrintWords Go.Proofs.YteimienhaodfcaaW.PrintLast Go.Proofs.YteimienhaodfcaaW.PrintMore
attribute [local go_sem] max2_int min2_int max_two min_two max_three min_three max_four min_four
set_option linter.unusedVariables false
set_option linter.unusedSimpArgs false
open Go.Crc
/-- A number's lowest digits to the base 256, the highest one first. -/
def be : Nat → Int → List Int
  | 0, _ => []
  | i + 1, v => v / 256 ^ i % 256 :: be i v
theorem be_length (i : Nat) (v : Int) : (be i v).length = i := by induction i with | zero => rfl | succ i ih => rw [be, List.length_cons, ih]
theorem wrapOk {a : Int} (h0 : -9223372036854775808 ≤ a) (h1 : a ≤ 9223372036854775807) : wrap64 a = a := by unfold wrap64; omega
theorem be_succ (i : Nat) (v : Int) : be (i + 1) v = v / 256 ^ i % 256 :: be i v := rfl
theorem set_step (cs cs1 : Array Value) (o n i : Nat) (v x : Int) (hn : o + n ≤ cs.size) (hi : i < n) (hx : x = v / 256 ^ i) (h : cs1.toList = cs.toList.take (o + n - i) ++ ((be i v).map (.int .u8) ++ cs.toList.drop (o + n))) :
    (cs1.setIfInBounds (o + (n - 1 - i)) (.int .u8 (x % 256))).toList = cs.toList.take (o + n - (i + 1)) ++ ((be (i + 1) v).map (.int .u8) ++ cs.toList.drop (o + n)) := by
  have hl : cs.toList.length = cs.size := Array.length_toList
  rw [Array.toList_setIfInBounds, h, List.set_append_left _ _ (by rw [List.length_take, hl]; omega)]
  rw [be_succ, ← hx, List.map_cons]
  have e : cs.toList.take (o + n - i) = cs.toList.take (o + n - (i + 1)) ++ [cs.toList[o + n - (i + 1)]'(by rw [hl]; omega)] := by
    have h := List.take_concat_get (l := cs.toList) (i := o + n - (i + 1)) (by rw [hl]; omega)
    rw [show o + n - (i + 1) + 1 = o + n - i by omega] at h
    rw [← h]; simp
  rw [e, List.set_append_right _ _ (by rw [List.length_take, hl]; omega)]
  rw [show o + (n - 1 - i) - (cs.toList.take (o + n - (i + 1))).length = 0 by rw [List.length_take, hl]; omega]
  simp
set_option maxHeartbeats 400000 in
set_option maxRecDepth 100000 in
theorem lay_calls (B g o n c : Nat) (v : Int) (cs : Array Value) (w : World) (hb : w.heap[g]? = some (.cells cs 5 (0, 0))) (hn : o + n ≤ cs.size) (hnc : n ≤ c) (hs : cs.size < 100000) (hv : 0 ≤ v) (hv2 : v < 18446744073709551616) (hB : B ≤ g) :
    Calls Try.prog 89 #[.slice (some ⟨g, o, none⟩) n c, .int .u64 v] w fun e w' => ∃ cs' : Array Value, e = .returned (.tuple #[]) ∧ w'.heap[g]? = some (.cells cs' 5 (0, 0)) ∧ cs'.toList = cs.toList.take o ++ ((be n v).map (.int .u8) ++ cs.toList.drop (o + n)) ∧ Below B w w' := by
  go_enter Try.func89, Try.ntmps89
  go_wp2
  go_loopg [1, 7] n (fun kq v1 v7 w' => ∃ (i : Nat) (x : Int) (cs1 : Array Value), v1 = .int .u64 x ∧ v7 = .int .i64 i ∧ w'.heap[g]? = some (.cells cs1 5 (0, 0)) ∧ cs1.size = cs.size ∧ Aside0 (0 ≤ x ∧ x < 18446744073709551616 ∧ x = v / 256 ^ i ∧ i ≤ n ∧ kq = n - i ∧ cs1.toList = cs.toList.take (o + n - i) ++ ((be i v).map (.int .u8) ++ cs.toList.drop (o + n)) ∧ Below B w w'))
  case atStart => exact ⟨0, v, cs, rfl, rfl, hb, rfl, ⟨hv, hv2, by simp, by omega, by omega, by simp [be], Below.refl _ _⟩⟩
  case round =>
    obtain ⟨i, x, cs1, rfl, rfl, hb1, hsz, HI⟩ := hrel
    have hi0 : i ≤ n := HI.out.2.2.2.1
    by_cases hi : i < n
    · have hd : decide ((i : Int) < (n : Int)) = true := decide_eq_true (by omega)
      have hf := blk_frozen hb1 (o + (n - 1 - i))
      obtain ⟨u, hu⟩ : ∃ u, cs1[o + (n - 1 - i)]? = some u := ⟨_, Array.getElem?_eq_getElem (by omega)⟩
      have hc := (blk_cell hb1 (o + (n - 1 - i))).trans hu
      go_wp2
      go_roundg (n - (i + 1))
      case measure => have := HI.out.2.2.2.2.1; omega
      case rel =>
        obtain ⟨h1, h2, h3, h4, h5, h6, h7⟩ := HI.out
        refine ⟨i + 1, x / 256, _, rfl, by first | rfl | simp, blk_set hb1 _ _, by simpa using hsz, ⟨by omega, by omega, ?_, by omega, by omega, ?_, h7.setCell hB _⟩⟩
        · rw [h3, Int.pow_succ, Int.ediv_ediv_of_nonneg (Int.le_of_lt (Int.pow_pos (by decide)))]
        · exact set_step cs cs1 o n i v x hn hi h3 h6
    · have hd : decide ((i : Int) < (n : Int)) = false := decide_eq_false (by omega)
      obtain ⟨h1, h2, h3, h4, h5, h6, h7⟩ := HI.out
      obtain rfl : i = n := by omega
      have H6 := Aside0.mk h6; have H7 := Aside0.mk h7; clear h6 h7 HI h3
      go_wp2
      first | go_end0 | ((try simp only [Exit.inBlock, Exit.then]); refine bodyPost_ret (results_none rfl _ _ _) rfl ?_)
      exact ⟨cs1, rfl, hb1, by have := H6.out; rwa [Nat.add_sub_cancel] at this, H7.out⟩
def room (s : Int) : Int := if s < 64 ∨ 8192 < s then 0 else s - 11
set_option maxHeartbeats 400000 in
theorem room_calls (s : Int) (w : World) : Calls Try.prog 79 #[.int .i64 s] w fun e w' => e = .returned (.int .i64 (room s)) ∧ Drawn0 w w' := by
  go_enter Try.func79, Try.ntmps79
  by_cases h1 : s < 64
  · have d1 : decide (s < 64) = true := decide_eq_true h1
    go_wp2
    go_ret
    exact ⟨by rw [room, if_pos (.inl h1)]; rfl, by repeat (first | exact Drawn0.refl _ | apply Drawn0.step)⟩
  · have d1 : decide (s < 64) = false := decide_eq_false h1
    by_cases h2 : 8192 < s
    · have d2 : decide (8192 < s) = true := decide_eq_true h2
      go_wp2
      go_ret
      exact ⟨by rw [room, if_pos (.inr h2)]; rfl, by repeat (first | exact Drawn0.refl _ | apply Drawn0.step)⟩
    · have d2 : decide (8192 < s) = false := decide_eq_false h2
      have hw : wrap64 (s - 11) = s - 11 := wrapOk (by omega) (by omega)
      go_wp2
      go_ret
      exact ⟨by rw [room, if_neg (by omega)]; try simp [hw], by repeat (first | exact Drawn0.refl _ | apply Drawn0.step)⟩
def zeros (n : Nat) : List Int := List.replicate n 0
theorem infoByte : (Try.prog.info? 5).map (fun i => (i.zero, i.size, i.bytes)) = some (some (.int .u8 0), 1, 1) := by kernel_rfl
theorem make_bytes (W : World) (n : Nat) (hn : n ≤ 281474976710656) : (Instr.makeSlice 33 (.int .i64 (n : Int)) (.int .i64 (n : Int))).run Try.prog W = .ok (.slice (some ⟨W.heap.size, 0, none⟩) n n) (W.alloc (.cells ((zeros n).map (.int .u8)).toArray 5)) := by
  obtain ⟨i, hi, h⟩ := Option.map_eq_some_iff.1 infoByte
  simp only [Prod.mk.injEq] at h
  obtain ⟨hz, h1, h2⟩ := h
  have hr := run_make (P := Try.prog) W 33 5 i (.int .u8 0) Try.underlying33 hi hz .i64 .i64 (n : Int) (n : Int) (by omega) (by omega) (by rw [h2]; omega) (by omega)
  rw [hr, h1]
  have e : madeCells (Value.int .u8 0).cells n = ((zeros n).map (.int .u8)).toArray := by
    apply Array.ext'
    simp only [madeCells, Array.toList_map, Array.toList_range, zeros, List.map_replicate, List.toList_toArray]
    refine List.eq_replicate_iff.mpr ⟨by simp, fun b hb => ?_⟩
    obtain ⟨a, _, rfl⟩ := List.mem_map.mp hb
    have : a % (Value.int IntKind.u8 0).cells.size = 0 := Nat.mod_one a
    rw [this]; rfl
  simp [e]
/-- A block of bytes. -/
def Blk (w : World) (g : Nat) (l : List Int) : Prop := w.heap[g]? = some (.cells (l.map (Value.int .u8)).toArray 5 (0, 0))
/-- A number laid. -/
def layL (l : List Int) (o n : Nat) (v : Int) : List Int := l.take o ++ (be n v ++ l.drop (o + n))
theorem lay_calls' (g o n c : Nat) (v : Int) (l : List Int) (w : World) (hb : Blk w g l) (hn : o + n ≤ l.length) (hnc : n ≤ c) (hs : l.length < 100000) (hv : 0 ≤ v) (hv2 : v < 18446744073709551616) :
    Calls Try.prog 89 #[.slice (some ⟨g, o, none⟩) n c, .int .u64 v] w fun e w' => e = .returned (.tuple #[]) ∧ Blk w' g (layL l o n v) ∧ Below g w w' := by
  refine (lay_calls g g o n c v _ w hb (by simpa using hn) hnc (by simpa using hs) hv hv2 (Nat.le_refl _)).mono ?_
  rintro e w' ⟨cs', rfl, h1, h2, h3⟩
  refine ⟨rfl, ?_, h3⟩
  unfold Blk
  rw [h1]
  congr 2
  apply Array.ext'
  rw [h2]
  simp [layL, List.map_take, List.map_drop]
theorem layL_length (l : List Int) (o n : Nat) (v : Int) (h : o + n ≤ l.length) : (layL l o n v).length = l.length := by
  unfold layL; rw [List.length_append, List.length_append, List.length_take, List.length_drop, be_length]; omega
theorem Blk.far {w w' : World} {g g' : Nat} {l : List Int} (h : Blk w g l) (hB : Below g' w w') (hlt : g < g') : Blk w' g l := (hB.block g hlt).trans h
theorem sizeByte : (Try.prog.info? 5).map (·.size) = some 1 := by kernel_rfl
theorem copy_bytes (W : World) (g o m cd : Nat) (A : Option Addr) (L l : List Int) (c : Nat) (hb : Blk W g l) (hr : Kd.C (Kd.int .u8) W A L.length L) (hm : L.length ≤ m) (hl : o + L.length ≤ l.length) :
    ∃ W', (Builtin.copy_ #[33, 33] 3 #[.slice (some ⟨g, o, none⟩) m cd, .slice A L.length c]).run Try.prog W = .ok (.int .i64 L.length) W' ∧ Blk W' g (l.take o ++ (L ++ l.drop (o + L.length))) ∧ Below g W W' := by
  by_cases h0 : L.length = 0
  · obtain rfl : L = [] := List.eq_nil_of_length_eq_zero h0
    exact ⟨W, run_copy_none W 33 33 3 5 _ A m cd 0 c Try.underlying33 sizeByte (by simp), by simpa using hb, Below.refl _ _⟩
  · obtain ⟨ad, rfl, hrd⟩ := hr.2.2 (by omega)
    have := run_copy_row (P := Try.prog) W 33 33 3 5 g o m cd ad L.length c _ 5 (L.map (Value.int .u8)) Try.underlying33 sizeByte hb (by simp only [List.length_map]; exact (Nat.min_eq_left hm).symm) (fun j v hv => ?_) (by simpa using hl) (fun v hv => ?_)
    · rw [List.length_map] at this
      refine ⟨_, this, ?_, below_setRow (Below.refl _ _) (Nat.le_refl _) _⟩
      unfold Blk
      rw [setRow_heap W g _ _ 5 (0, 0) hb]
      simp [List.map_take, List.map_drop]
    · rw [List.getElem?_map] at hv
      obtain ⟨p, hp, rfl⟩ := Option.map_eq_some_iff.mp hv
      obtain ⟨cs, h1, h2, h3⟩ := hrd j p hp
      obtain rfl : cs = [.int .u8 p] := h2
      have h4 := h3 0 _ rfl
      rwa [show j * (Kd.int .u8).sz + 0 = j from Nat.mul_one j] at h4
    · obtain ⟨x, _, rfl⟩ := List.mem_map.mp hv; rfl
theorem of_drew {B : Nat} {W w2 : World} (h : Below B W.drew w2) : Below B W w2 := ⟨h.os, h.tape, h.output, h.size, h.block⟩
theorem be_bytes (n : Nat) (v : Int) : Bytes (be n v) := by
  induction n with
  | zero => intro x hx; simp [be] at hx
  | succ n ih =>
    intro x hx
    rw [be] at hx
    rcases List.mem_cons.mp hx with rfl | hx
    · omega
    · exact ih x hx
theorem Bytes.append {a b : List Int} (h : Bytes a) (k : Bytes b) : Bytes (a ++ b) := fun x hx => (List.mem_append.mp hx).elim (h x) (k x)
theorem layL_bytes (l : List Int) (o n : Nat) (v : Int) (h : Bytes l) : Bytes (layL l o n v) :=
  Bytes.append (fun x hx => h x (List.mem_of_mem_take hx)) (Bytes.append (be_bytes _ _) (fun x hx => h x (List.mem_of_mem_drop hx)))
theorem below_drewN_ {B : Nat} {w W : World} {n : Nat} (h : Below B w W) : Below B w (W.drew.drewN n) := pw_below_drewN (below_drew1 h) n
theorem beq_f {a b : Int} (h : ¬ a = b) : (a == b) = false := by simpa using h
def putHead (s : Nat) (kind id : Int) (L : List Int) : List Int := layL (layL ((zeros s).set 0 kind) 1 4 id) 5 2 L.length
def putBody (s : Nat) (kind id : Int) (L : List Int) : List Int := (putHead s kind id L).take 7 ++ (L ++ (putHead s kind id L).drop (7 + L.length))
def putB (s : Nat) (kind id : Int) (L : List Int) : List Int := layL (putBody s kind id L) (s - 4) 4 (crc ((putBody s kind id L).take (s - 4)))
def putE (size kind : Int) (L : List Int) : Int := if room size = 0 ∨ kind = 0 then 2 else if room size < (L.length : Int) then 1 else 0
theorem putHead_length (s : Nat) (kind id : Int) (L : List Int) (h : 7 ≤ s) : (putHead s kind id L).length = s := by
  have h0 : ((zeros s).set 0 kind).length = s := by simp [zeros]
  have h1 := layL_length ((zeros s).set 0 kind) 1 4 id (by omega)
  unfold putHead; rw [layL_length _ _ _ _ (by omega), h1, h0]
theorem putBody_length (s : Nat) (kind id : Int) (L : List Int) (h : 7 + L.length ≤ s) : (putBody s kind id L).length = s := by
  unfold putBody; rw [List.length_append, List.length_append, List.length_take, List.length_drop, putHead_length _ _ _ _ (by omega)]; omega
theorem putBody_bytes (s : Nat) (kind id : Int) (L : List Int) (hk : 0 ≤ kind ∧ kind < 256) (hL : Bytes L) : Bytes (putBody s kind id L) := by
  have h0 : Bytes ((zeros s).set 0 kind) := by
    intro x hx
    rcases List.mem_or_eq_of_mem_set hx with hx | rfl
    · rw [(List.mem_replicate.mp hx).2]; omega
    · exact hk
  have h1 : Bytes (putHead s kind id L) := layL_bytes _ _ _ _ (layL_bytes _ _ _ _ h0)
  exact Bytes.append (fun x hx => h1 x (List.mem_of_mem_take hx)) (Bytes.append hL (fun x hx => h1 x (List.mem_of_mem_drop hx)))
theorem R_of_blk {w : World} {g base : Nat} {l : List Int} {ok : Nat → Prop} (h : Blk w g l) (hb : base ≤ g) (hok : ok g) (hl : l.length ≤ maxLen) : Kd.R (Kd.int .u8) 5 w base ok (.slice (some ⟨g, 0, none⟩) l.length l.length) l := by
  refine ⟨fun k hk => ?_, l.map (Value.int .u8), ⟨by simp [Kd.int, Kd.scalar], .inr ⟨g, l.length, _, rfl, hb, h, Nat.le_refl _, hl, by simp [Kd.int, Kd.scalar], by simp [Kd.int, Kd.scalar, List.take_of_length_le]⟩⟩, ?_⟩
  · obtain rfl : g = k := by simpa [Value.ownBlock] using hk
    exact hok
  · exact Kd.reps_scalar (enc := Value.int .u8) l
end Go.Proofs.YteimienhaodfcaaK
