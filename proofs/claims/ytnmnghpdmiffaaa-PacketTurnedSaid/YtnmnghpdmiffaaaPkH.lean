/-
  An Out and an In at once, and what their methods leave of both.
-/
import Derived.Test.YtnmnghpdmiffaaaPkG
namespace Go.Proofs.Ytnmnghpdmiffaaa.Pk
open Go.RowKit Go.Proofs.YtnmnghpdmiffaaaW.PrintWords Go.Proofs.YtnmnghpdmiffaaaW.PrintLast Go.Proofs.YtnmnghpdmiffaaaW.PrintMore Go.Proofs.Ytnmnghpdmiffaaa.Arr
set_option linter.unusedVariables false
set_option maxRecDepth 100000
/-- An Out at g, an In at h, both made behind the world u; all that was there ahead is as it was. -/
structure Two (u w : World) (g h : Nat) (vo : Value) (ko : Option (List Int)) (no : Int) (vk vb : Value) (kn : Option (List Int)) (nn : Int) (bs : List Int) (why : Int) : Prop where
  o : OutS w g vo ko no
  i : InS w h vk vb kn nn bs why
  gh : g ≠ h
  ug : u.heap.size ≤ g
  uh : u.heap.size ≤ h
  ub : ∀ b, vb.ownBlock = some b → u.heap.size ≤ b
  below : Below u.heap.size u w
  oh : ∀ b, vo.ownBlock = some b → b ≠ h
  ob : ∀ b, vo.ownBlock = some b → vb.ownBlock ≠ some b
  kg : ∀ b, vk.ownBlock = some b → b ≠ g
  bg : ∀ b, vb.ownBlock = some b → b ≠ g
section
variable {u w w' : World} {g h : Nat} {vo : Value} {ko : Option (List Int)} {no : Int} {vk vb : Value} {kn : Option (List Int)} {nn : Int} {bs : List Int} {why : Int}
theorem Two.fr (T : Two u w g h vo ko no vk vb kn nn bs why) (hb : Below w.heap.size w w') : Two u w' g h vo ko no vk vb kn nn bs why :=
  ⟨T.o.below hb, T.i.below hb, T.gh, T.ug, T.uh, T.ub, below_step T.below hb, T.oh, T.ob, T.kg, T.bg⟩
theorem Two.size (T : Two u w g h vo ko no vk vb kn nn bs why) : u.heap.size ≤ w.heap.size := T.below.size
theorem two_new (u : World) :
    Calls Try.prog 12 #[] u fun e w => ∃ g, e = .returned (.pointer (some ⟨g, 0, none⟩)) ∧
      Calls Try.prog 22 #[] w fun e w' => ∃ h, e = .returned (.pointer (some ⟨h, 0, none⟩)) ∧ Two u w' g h (.slice none 0 0) none 0 (.slice none 0 0) (.slice none 0 0) none 0 [] 0 := by
  refine (newOut_calls u).mono ?_
  rintro e w ⟨g, rfl, hg, hO, hB⟩
  refine ⟨g, rfl, (newIn_calls w).mono ?_⟩
  rintro e w' ⟨h, rfl, hh, hI, hB2⟩
  have h1 := hO.lt
  have h2 := hB.size
  exact ⟨h, rfl, hO.below hB2, hI, by omega, hg, by omega, (fun b hb => by cases hb), below_step hB hB2, (fun b hb => by cases hb), (fun b hb => by cases hb), (fun b hb => by cases hb), (fun b hb => by cases hb)⟩
theorem two_outKeys (T : Two u w g h vo ko no vk vb kn nn bs why) {A : Option Addr} {c : Nat} {k : List Int} (hC : (Kd.int .u8).C w A 32 k) (hc : 32 ≤ c) :
    Calls Try.prog 14 #[.pointer (some ⟨g, 0, none⟩), .slice A 32 c] w fun e w' => e = .returned (.int .i64 0) ∧ ∃ v', Two u w' g h v' (some k) no vk vb kn nn bs why ∧ GB (fun k => k = g) w w' := by
  refine (outKeys_calls g vo ko no A c k w T.o hC hc).mono ?_
  rintro e w' ⟨rfl, v', hO, hf, hG⟩
  have h1 := T.i.lt
  refine ⟨rfl, v', ⟨hO, T.i.keep hG (fun e => T.gh e.symm) (fun b hb => T.kg b hb) (fun b hb => T.bg b hb), T.gh, T.ug, T.uh, T.ub, T.below.trans (hG.below T.size (fun k hk => by rw [hk]; exact T.ug)), ?_, ?_, T.kg, T.bg⟩, hG⟩
  · intro b hb
    have := hf b hb
    omega
  · intro b hb he
    have h2 := hf b hb
    have h3 := T.i.row.lt b he
    omega
theorem two_inKeys (T : Two u w g h vo ko no vk vb kn nn bs 0) {A : Option Addr} {c : Nat} {k : List Int} (hC : (Kd.int .u8).C w A 32 k) (hc : 32 ≤ c) :
    Calls Try.prog 23 #[.pointer (some ⟨h, 0, none⟩), .slice A 32 c] w fun e w' => e = .returned (.int .i64 0) ∧ ∃ v', Two u w' g h vo ko no v' vb (some k) nn bs 0 ∧ GB (fun k => k = h) w w' := by
  refine (inKeys_calls h vk vb kn nn bs A c k w T.i hC hc).mono ?_
  rintro e w' ⟨rfl, v', hI, hf, hG⟩
  have h1 := T.o.lt
  refine ⟨rfl, v', ⟨T.o.keep hG (fun e => T.gh e) (fun b hb => T.oh b hb), hI, T.gh, T.ug, T.uh, T.ub, T.below.trans (hG.below T.size (fun k hk => by rw [hk]; exact T.uh)), T.oh, T.ob, ?_, T.bg⟩, hG⟩
  intro b hb
  have := hf b hb
  omega
theorem two_packet (T : Two u w g h vo ko no vk vb kn nn bs why) (hn : 0 ≤ no ∧ no < 18446744073709551615) {A : Option Addr} {c : Nat} {b : List Int} (hC : (Kd.int .u8).C w A b.length b) (hc : b.length ≤ c) (h1 : 1 ≤ b.length) (h2 : b.length ≤ 34000) :
    Calls Try.prog 18 #[.pointer (some ⟨g, 0, none⟩), .slice A b.length c] w fun e w' => ∃ v', e = .returned (.tuple #[v', .int .i64 0]) ∧ (Kd.int .u8).R 5 w' w.heap.size (fun _ => True) v' (packetF ko no b) ∧ Two u w' g h vo ko (no + 1) vk vb kn nn bs why ∧ GB (fun k => k = g) w w' := by
  refine (packet_calls g vo ko no A c b w T.o hn hC hc h1 h2).mono ?_
  rintro e w' ⟨v', rfl, hR, hO, hG⟩
  exact ⟨v', rfl, hR, ⟨hO, T.i.keep hG (fun e => T.gh e.symm) (fun b hb => T.kg b hb) (fun b hb => T.bg b hb), T.gh, T.ug, T.uh, T.ub, T.below.trans (hG.below T.size (fun k hk => by rw [hk]; exact T.ug)), T.oh, T.ob, T.kg, T.bg⟩, hG⟩
theorem two_feed (T : Two u w g h vo ko no vk vb kn nn bs 0) {A : Option Addr} {m c : Nat} {xs : List Int} (hC : (Kd.int .u8).C w A m xs) (hl : bs.length + m ≤ 140737488355328) :
    Calls Try.prog 26 #[.pointer (some ⟨h, 0, none⟩), .slice A m c] w fun e w' => e = .returned (.tuple #[]) ∧ ∃ v', Two u w' g h vo ko no vk v' kn nn (bs ++ xs) 0 ∧ (v'.ownBlock = vb.ownBlock ∨ ∃ b, v'.ownBlock = some b ∧ w.heap.size ≤ b) ∧ GB (fun k => k = h ∨ vb.ownBlock = some k) w w' := by
  refine (feed_calls h vk vb kn nn bs A m c xs w T.i hC hl).mono ?_
  rintro e w' ⟨rfl, v', hI, hat, hG⟩
  have h1 := T.o.lt
  have h2 := T.size
  refine ⟨rfl, v', ⟨T.o.keep hG ?_ ?_, hI, T.gh, T.ug, T.uh, ?_, T.below.trans (hG.below T.size ?_), T.oh, ?_, T.kg, ?_⟩, hat, hG⟩
  · rintro (e | e)
    · exact T.gh e
    · exact T.bg g e rfl
  · rintro b hb (e | e)
    · exact T.oh b hb e
    · exact T.ob b hb e
  · intro b hb
    rcases hat with e | ⟨b', e, hle⟩
    · exact T.ub b (by rw [← e]; exact hb)
    · rw [e] at hb; cases hb; omega
  · rintro k (e | e)
    · rw [e]; exact T.uh
    · exact T.ub k e
  · intro b hb he
    rcases hat with e | ⟨b', e, hle⟩
    · exact T.ob b hb (by rw [← e]; exact he)
    · rw [e] at he
      cases he
      have := T.o.key.lt b hb
      omega
  · intro b hb
    rcases hat with e | ⟨b', e, hle⟩
    · exact T.bg b (by rw [← e]; exact hb)
    · rw [e] at hb; cases hb; omega
theorem two_next (T : Two u w g h vo ko no vk vb kn nn bs why) (hn : 0 ≤ nn ∧ nn < 18446744073709551615) (hb : ∀ x ∈ bs, 0 ≤ x ∧ x < 256) (hl : bs.length ≤ 1000000000) {rp : List Int} {rok : Bool} {re rn : Int} {rb : List Int} {rwhy : Int} (hr : nextF kn nn bs why = ⟨rp, rok, re, rn, rb, rwhy⟩) :
    Calls Try.prog 29 #[.pointer (some ⟨h, 0, none⟩)] w fun e w' => ∃ v' vb', e = .returned (.tuple #[v', .bool rok, .int .i64 re]) ∧ (Kd.int .u8).R 5 w' w.heap.size (fun _ => True) v' rp ∧ Two u w' g h vo ko no vk vb' kn rn rb rwhy ∧ (∀ b, vb'.ownBlock = some b → vb.ownBlock = some b) ∧ GB (fun k => k = h) w w' := by
  refine (next_calls h vk vb kn nn bs why w T.i hn hb hl).mono ?_
  rintro e w' ⟨v', vb', rfl, hR, hI, hown, hG⟩
  rw [hr] at hR hI ⊢
  exact ⟨v', vb', rfl, hR, ⟨T.o.keep hG (fun e => T.gh e) (fun b hb => T.oh b hb), hI, T.gh, T.ug, T.uh, (fun b hb => T.ub b (hown b hb)), T.below.trans (hG.below T.size (fun k hk => by rw [hk]; exact T.uh)), T.oh, (fun b hb he => T.ob b hb (hown b he)), T.kg, (fun b hb => T.bg b (hown b hb))⟩, hown, hG⟩
theorem two_held (T : Two u w g h vo ko no vk vb kn nn bs why) :
    Calls Try.prog 30 #[.pointer (some ⟨h, 0, none⟩)] w fun e w' => e = .returned (.int .i64 (bs.length : Int)) ∧ w' = w := held_calls h vk vb kn nn bs why w T.i
end
end Go.Proofs.Ytnmnghpdmiffaaa.Pk
