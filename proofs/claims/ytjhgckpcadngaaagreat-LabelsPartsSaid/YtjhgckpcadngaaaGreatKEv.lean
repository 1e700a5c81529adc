/- Small laws for printed functions with rounds ('Ev g r': from some round on, g answers r). -/
import Derived.Test.YtjhgckpcadngaaaGreatWWords
import Derived.OpenShut
namespace Go.Proofs.YtjhgckpcadngaaaGreatK
open Go Go.RowKit Go.Proofs.YtjhgckpcadngaaaGreatW.PrintWords

theorem Ev.ite_ {α : Type} {c : Prop} [Decidable c] {f g : Nat → Option α} {r : α} (h1 : c → Ev f r) (h2 : ¬ c → Ev g r) : Ev (fun k => if c then f k else g k) r := by
  by_cases h : c
  · simpa only [if_pos h] using h1 h
  · simpa only [if_neg h] using h2 h
theorem Ev.pos_ {α : Type} {c : Prop} [Decidable c] {f g : Nat → Option α} {r : α} (h : c) (k : Ev f r) : Ev (fun n => if c then f n else g n) r := Ev.ite_ (fun _ => k) (fun n => absurd h n)
theorem Ev.neg_ {α : Type} {c : Prop} [Decidable c] {f g : Nat → Option α} {r : α} (h : ¬ c) (k : Ev g r) : Ev (fun n => if c then f n else g n) r := Ev.ite_ (fun n => absurd n h) (fun _ => k)
theorem Ev.some_bind {α β : Type} {x : Option α} {a : α} {f : Nat → α → Option β} {r : β} (h : x = some a) (k : Ev (fun n => f n a) r) : Ev (fun n => x.bind (f n)) r := by subst h; exact k
theorem Ev.at_ {α : Type} {g : Nat → Option α} {r : α} (h : Ev g r) : ∃ k, g k = some r := h.rounds
/-- A printed function with rounds that is met inside: its answer at some round. -/
theorem Ev.from_ {α : Type} {g : Nat → Option α} {r : α} (hg : ∀ k, LeO (g k) (g (k + 1))) (h : ∃ k, g k = some r) : Ev g r := let ⟨_, h⟩ := h; Ev.of hg h
theorem Ev.bind_ {α β : Type} {g : Nat → Option α} {f : Nat → α → Option β} {a : α} {r : β} (h : Ev g a) (k : Ev (fun n => f n a) r) : Ev (fun n => (g n).bind (f n)) r := Ev.bind h k
theorem Ev.again_ {α : Type} {g : Nat → Option α} {r : α} (h : Ev g r) : Ev (fun k => (g k).bind fun t => some t) r := Ev.bind h (Ev.now r)

theorem wrap64_id {a : Int} (h0 : -9223372036854775808 ≤ a) (h1 : a ≤ 9223372036854775807) : wrap64 a = a := by unfold wrap64; omega

end Go.Proofs.YtjhgckpcadngaaaGreatK
