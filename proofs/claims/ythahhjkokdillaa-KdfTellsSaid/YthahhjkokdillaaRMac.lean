/-
  The HMAC of the document's answer (strongroomref6.Mac), walked: it reckons what kdf.Mac reckons.
-/
import Derived.Test.YthahhjkokdillaaRSha
import Derived.Test.YthahhjkokdillaaMac
import Derived.Deep.Cut
import Derived.Deep.DeepCutAuto
namespace Go.Proofs.Ythahhjkokdillaa.Sha
open Go.RowKit Go.Proofs.YthahhjkokdillaaW.PrintWords Go.Proofs.YthahhjkokdillaaW.PrintLast Go.Proofs.YthahhjkokdillaaW.PrintMore Go.Proofs.Ythahhjkokdillaa.Arr
set_option linter.unusedVariables false
def xl (c : Int) (p : List Int) (i : Nat) : List Int := (p.take i).map (fun x => Go.bits .xor .u8 x c)
theorem len_xl (c : Int) (p : List Int) (i : Nat) (h : i ≤ p.length) : (xl c p i).length = i := by rw [xl, List.length_map, List.length_take]; omega
theorem xl_step (c : Int) (p : List Int) (i : Nat) (h : i < p.length) : xl c p (i + 1) = xl c p i ++ [Go.bits .xor .u8 (rd p (i : Int)) c] := by
  unfold xl
  rw [List.take_add_one, List.map_append, List.getElem?_eq_getElem h, rd_nat, List.getD_eq_getElem?_getD, List.getElem?_eq_getElem h]
  rfl
theorem xorN_xl (c : Int) (p : List Int) : ∀ i, i ≤ p.length → xorN c p i = xl c p i ++ p.drop i
  | 0, _ => by simp [xorN, xl]
  | i + 1, h => by
    have hl : (xl c p i).length = i := len_xl c p i (by omega)
    rw [xorN, xorN_xl c p i (by omega), xl_step c p i (by omega)]
    have hr : rd (xl c p i ++ p.drop i) (i : Int) = rd p (i : Int) := by
      rw [rd_nat, rd_nat, List.getD_eq_getElem?_getD, List.getD_eq_getElem?_getD, List.getElem?_append_right (by omega), hl, Nat.sub_self, List.getElem?_drop, Nat.add_zero]
    rw [hr, List.set_append_right _ _ (by omega), hl, Nat.sub_self, List.drop_eq_getElem_cons (by omega), List.set_cons_zero, List.append_assoc]
    rfl
theorem xorN_all (c : Int) (p : List Int) (h : p.length = 64) : xorN c p 64 = xl c p 64 := by
  rw [xorN_xl c p 64 (by omega), List.drop_of_length_le (by omega), List.append_nil]
theorem pad_eq (k : List Int) (h : k.length ≤ 64) : k ++ List.replicate (64 - k.length) 0 = padF k := by
  unfold padF z64
  rw [List.drop_replicate]
/-- Two rows of the call's own that do not meet: one grows, the other stays. -/
theorem R_stay {w w1 : World} {base : Nat} {u v : Value} {xs : List Int} (hu : (Kd.int .u8).R 5 w base (fun _ => True) u xs) (hne : ∀ k, u.ownBlock = some k → v.ownBlock ≠ some k) (hg : w.grownBy w1 v.ownBlock) : (Kd.int .u8).R 5 w1 base (fun _ => True) u xs :=
  Kd.R_mono (Kd.R_grown (Kd.R_of_own (ok := fun k => some k ≠ v.ownBlock) (Kd.own_of_R hu) (fun k hk => Ne.symm (hne k hk))) hg (fun k hk => hk)) (fun _ _ => trivial)
theorem ne_step {w : World} {base : Nat} {u v v1 : Value} {xs : List Int} (hu : (Kd.int .u8).R 5 w base (fun _ => True) u xs) (hne : ∀ k, u.ownBlock = some k → v.ownBlock ≠ some k) (hn : v1.ownBlock = v.ownBlock ∨ ∃ b, v1.ownBlock = some b ∧ w.heap.size ≤ b) : ∀ k, u.ownBlock = some k → v1.ownBlock ≠ some k := by
  intro k hk
  rcases hn with h | ⟨b, h, hb⟩
  · rw [h]; exact hne k hk
  · rw [h]
    intro e
    have := Kd.R_lt hu k hk
    have := Option.some.inj e
    omega
theorem ne_symm {u v : Value} (h : ∀ k, u.ownBlock = some k → v.ownBlock ≠ some k) : ∀ k, v.ownBlock = some k → u.ownBlock ≠ some k := fun k hk e => h k e hk
theorem sum0_calls {f : FuncId} {A : Option Addr} {c : Nat} {l : List Int} {w : World} {Q : Ending → World → Prop} (h : Calls Try.prog f #[.slice A l.length c] w Q) (n : Nat) (hn : n = l.length) : Calls Try.prog f #[.slice A n c] w Q := by rw [hn]; exact h
set_option maxHeartbeats 8000000
set_option maxRecDepth 100000
theorem refMac_calls (A0 : Option Addr) (c0 : Nat) (l0 : List Int) (A1 : Option Addr) (c1 : Nat) (l1 : List Int) (w : World) (hr0 : (Kd.int .u8).C w A0 l0.length l0) (hc0 : l0.length ≤ c0) (hr1 : (Kd.int .u8).C w A1 l1.length l1) (hc1 : l1.length ≤ c1) (hl0 : l0.length ≤ 90000000) (hl1 : l1.length ≤ 90000000) :
    Calls Try.prog 29 #[.slice A0 l0.length c0, .slice A1 l1.length c1] w fun e w' => ∃ v, e = .returned v ∧ (Kd.int .u8).R 5 w' w.heap.size (fun _ => True) v (macF l0 l1) ∧ Below w.heap.size w w' := by
  have C0 := Aside0.mk hr0
  have C1 := Aside0.mk hr1
  have HL := Aside0.mk (And.intro hl0 hl1)
  obtain ⟨kk, hkk⟩ : ∃ k, k = (if l0.length ≤ 64 then l0 else shaF l0) := ⟨_, rfl⟩
  have KK := Aside0.mk (show macF l0 l1 = macS kk l1 ∧ kk.length ≤ 64 ∧ (64 < l0.length → kk = shaF l0) ∧ (¬ 64 < l0.length → kk = l0) by
    unfold macF
    rw [hkk]
    by_cases h : l0.length ≤ 64
    · simp only [if_pos h]
      exact ⟨trivial, h, fun h2 => by omega, fun _ => trivial⟩
    · simp only [if_neg h]
      exact ⟨trivial, by rw [len_shaF]; decide, fun _ => trivial, fun h2 => by omega⟩)
  clear hr0 hc0 hr1 hc1 hl0 hl1 hkk
  have Z1 := Aside0.mk (lit_R w w.heap.size w.heap.size 5 .u8 [] 0 rfl (Nat.le_refl _) rfl (by decide))
  have L1 := Aside0.mk (show Below w.heap.size w (w.alloc (.cells #[] 5)) from (Below.refl _ _).alloc (Nat.le_refl _) _)
  go_enter Try.func29, Try.ntmps29
  go_upto_if 14 with ((with_reducible refine gate_builtin (b := .append) (xs := #[.tmp 9, .tmp 10]) rfl ?_); at_builtin; (refine Kd.R_append_row (w0 := w) (Value.int .u8) (0 : Int) (h1 := fun _ => rfl) w.heap.size rfl (.tmp 9) (.tmp 10) 22 5 (.int .u8 0) 1 rfl Try.underlying22 Pol.info_u8 rfl Nat.one_pos _ [] l0 A0 l0.length c0 (fun _ => True) rfl rfl (fun _ _ => trivial) ?q1 ?q2 ?q3 ?q4 ?q5 ?_; (case q1 => exact Z1.out); (case q2 => exact Kd.C_below C0.out L1.out); (case q3 => exact L1.out); (case q4 => exact (L1.out).size); (case q5 => have := HL.out.1; simp only [List.length_nil]; omega); intro v2 w2 hR hB _ _; have R2 := Aside0.mk (show (Kd.int .u8).R 5 w2 w.heap.size (fun _ => True) v2 l0 from hR); have L2 := Aside0.mk hB; clear hR hB; obtain ⟨A2, c2, hv2⟩ := Kd.R_slice R2.out; obtain ⟨n2, hn2⟩ : ∃ n, n = l0.length := ⟨_, rfl⟩; rw [← hn2] at hv2; subst hv2; have N2 := Aside0.mk hn2; clear hn2))
  go_cut [5] (fun v wx => ∃ (Ak : Option Addr) (nk ck : Nat), v = .slice Ak nk ck ∧ nk = kk.length ∧ Aside0 ((Kd.int .u8).R 5 wx w.heap.size (fun _ => True) (.slice Ak nk ck) kk) ∧ Aside0 (Below w.heap.size w wx))
  case first =>
    by_cases hlt : 64 < l0.length
    · have hk := KK.out.2.2.1 hlt
      have h1 : (64 : Int) < (n2 : Int) := by have := N2.out; omega
      have h2 : decide ((64 : Int) < (n2 : Int)) = true := decide_eq_true h1
      have h3 : 64 < n2 := by omega
      have HK := Aside0.mk hk
      obtain ⟨hna, hnc, hCC⟩ := Kd.R_reads' R2.out
      have CS := sum0_calls (Sha.refSum_calls A2 c2 l0 w2 hCC (by omega) (by have := HL.out.1; omega)) n2 hna
      have CS := Aside0.mk CS
      clear hk hna hnc hCC hlt
      go_wp2_with fail
      refine CS.out.mono ?_
      rintro e w3 ⟨v3, rfl, hR, hB⟩
      obtain ⟨A3, c3, hv3⟩ := Kd.R_slice hR
      subst hv3
      have R3 := Aside0.mk (Kd.R_lower hR L2.out.size)
      have L3 := Aside0.mk (below_step L2.out hB)
      clear hR hB h1 h2 h3
      go_wp2_with fail
      go_meet
      exact ⟨A3, _, c3, rfl, by rw [HK.out], ⟨by rw [HK.out]; exact R3.out⟩, L3⟩
    · have hk := KK.out.2.2.2 hlt
      have h1 : ¬ (64 : Int) < (n2 : Int) := by have := N2.out; omega
      have h2 : decide ((64 : Int) < (n2 : Int)) = false := decide_eq_false h1
      have h3 : ¬ 64 < n2 := by omega
      go_wp2_with fail
      go_meet
      exact ⟨A2, n2, c2, rfl, by rw [hk]; exact N2.out, ⟨by rw [hk]; exact R2.out⟩, L2⟩
  case rest =>
    obtain ⟨Ak, nk, ck, rfl, hnk, RK, LK⟩ := hcut
    have NK := Aside0.mk hnk
    obtain ⟨d, hd⟩ : ∃ d, d = 64 - kk.length := ⟨_, rfl⟩
    have HD := Aside0.mk (And.intro hd KK.out.2.1)
    clear hd hnk
    go_wp2_with fail
    go_loopw [5] (fun v w' => ∃ j : Nat, j ≤ d ∧ (∃ (A : Option Addr) (n c : Nat), v = .slice A n c ∧ n = kk.length + j ∧ Aside0 ((Kd.int .u8).R 5 w' w.heap.size (fun _ => True) (.slice A n c) (kk ++ List.replicate j 0))) ∧ Aside0 (Below w.heap.size w w')) (fun v _ => 64 - lenV v)
    case atStart => exact ⟨0, by omega, ⟨Ak, nk, ck, rfl, by rw [NK.out]; rfl, ⟨by rw [List.replicate_zero, List.append_nil]; exact RK.out⟩⟩, LK⟩
    case round =>
      obtain ⟨j, hj, ⟨A, n, c, rfl, hn, HR⟩, HB⟩ := hrel
      have HJ := Aside0.mk (And.intro hj hn)
      by_cases hlt : j < d
      · have h1 : (n : Int) < 64 := by have := HD.out; omega
        have h3 : n < 64 := by omega
        have HLT := Aside0.mk hlt
        clear hn hj hlt
        go_wp2_with ((with_reducible refine gate_builtin (b := .append) (xs := #[.tmp 20, .tmp 21]) rfl ?_); at_builtin; refine lit_append w.heap.size rfl (.tmp 20) (.tmp 21) 22 5 .u8 1 rfl Try.underlying22 Pol.info_u8 Nat.one_pos _ (kk ++ List.replicate j 0) [0] 1 ?q1 rfl ?q3 ?q4 ?q5 ?q6 ?_; (case q1 => rfl); (case q3 => rfl); (case q4 => exact HR.out); (case q5 => exact HB.out.size); (case q6 => have := HD.out; have := HLT.out; rw [List.length_append, List.length_replicate]; omega); intro v6 w6 hR1 hB1; obtain ⟨A6, c6, hv6⟩ := Kd.R_slice hR1; obtain ⟨n6, hn6⟩ : ∃ n, n = (kk ++ List.replicate j 0 ++ [0]).length := ⟨_, rfl⟩; rw [← hn6] at hv6; subst hv6; have N6 := Aside0.mk hn6; have R6 := Aside0.mk hR1; have L6 := Aside0.mk (HB.out.trans hB1); clear hR1 hB1 hn6)
        have hn6 : n6 = kk.length + (j + 1) := by rw [N6.out, List.length_append, List.length_append, List.length_replicate]; rfl
        refine ⟨⟨j + 1, by have := HLT.out; omega, ⟨A6, n6, c6, rfl, hn6, ⟨by rw [List.replicate_succ', ← List.append_assoc]; exact R6.out⟩⟩, L6⟩, ?_⟩
        have := HJ.out.2
        simp only [lenV]
        omega
      · obtain rfl : j = d := by omega
        have h1 : ¬ (n : Int) < 64 := by have := HD.out; omega
        have h3 : ¬ n < 64 := by omega
        obtain ⟨p, hp⟩ : ∃ p, p = padF kk := ⟨_, rfl⟩
        have hR2 := HR.out
        rw [HD.out.1, pad_eq kk HD.out.2, ← hp] at hR2
        have LP := Aside0.mk (show p.length = 64 by rw [hp, len_padF kk HD.out.2])
        obtain ⟨gk, ck2, hv, _, _, _⟩ := Kd.R_form hR2 (by rw [LP.out]; decide)
        have hA : A = some ⟨gk, 0, none⟩ := by injection hv
        subst hA
        obtain ⟨hna, hnc, hCC⟩ := Kd.R_reads' hR2
        clear hv
        have HP := Aside0.mk hp
        obtain ⟨wo, rfl⟩ : ∃ z : World, z = wr := ⟨_, rfl⟩
        obtain rfl : n = 64 := by rw [hna, LP.out]
        have CP := Aside0.mk (And.intro hCC hnc)
        have BO := Aside0.mk HB.out
        clear hn hj hR2 hna hnc hCC hp hlt HR HB
        go_wp2_with fail
        go_loopw [6, 7, 8] (fun vi vo v w' => ∃ i : Nat, i ≤ 64 ∧ v = .int .i64 i ∧ (∃ (Ai : Option Addr) (ni ci : Nat), vi = .slice Ai ni ci ∧ ni = i ∧ ∃ (Ao : Option Addr) (no co : Nat), vo = .slice Ao no co ∧ no = i ∧ Aside0 ((Kd.int .u8).R 5 w' wo.heap.size (fun _ => True) (.slice Ai ni ci) (xl 54 p i) ∧ (Kd.int .u8).R 5 w' wo.heap.size (fun _ => True) (.slice Ao no co) (xl 92 p i) ∧ (∀ k, (Value.slice Ai ni ci).ownBlock = some k → (Value.slice Ao no co).ownBlock ≠ some k))) ∧ Aside0 (Below wo.heap.size wo w')) (fun _ _ v _ => 64 - (intOf v).toNat)
        case atStart => exact ⟨0, by omega, rfl, ⟨none, 0, 0, rfl, rfl, none, 0, 0, rfl, rfl, ⟨Kd.R_nil _ _ _ _ _, Kd.R_nil _ _ _ _ _, fun k hk => by simp [Value.ownBlock] at hk⟩⟩, ⟨Below.refl _ _⟩⟩
        case round =>
          obtain ⟨i, hi, rfl, ⟨Ai, ni, ci, rfl, hni, Ao, no, co, rfl, hno, HIO⟩, HB⟩ := hrel
          by_cases h64 : i < 64
          · have i0 : (i : Int) < 64 := by omega
            have H64 := Aside0.mk h64
            have HNI := Aside0.mk (And.intro hni hno)
            have cell := Aside0.mk (fun (w' : World) (h : Below wo.heap.size wo w') => show w'.cell? ⟨gk, i, none⟩ = some (.int .u8 (rd p (i : Int))) from by
              obtain ⟨ad, hA, hc⟩ := Kd.at_int (Kd.C_below CP.out.1 h) (i : Int) (by omega) (by rw [LP.out]; omega)
              cases hA
              rw [Int.toNat_natCast, add_plain] at hc
              exact hc)
            have hc7 := cell.out wr HB.out
            clear hni hno h64
            go_wp2_with (first | ((with_reducible refine gate_builtin (b := .append) (xs := #[.tmp 27, .tmp 33]) rfl ?_); at_builtin; (refine Kd.R_append_row (w0 := wo) (Value.int .u8) (0 : Int) (h1 := fun _ => rfl) wo.heap.size rfl (.tmp 27) (.tmp 33) 22 5 (.int .u8 0) 1 rfl Try.underlying22 Pol.info_u8 rfl Nat.one_pos _ (xl 54 p i) [Go.bits .xor .u8 (rd p (i : Int)) 54] (some ⟨wr.heap.size, 0, none⟩) 1 1 (fun _ => True) rfl rfl (fun _ _ => trivial) ?q1 ?q2 ?q3 ?q4 ?q5 ?_; (case q1 => exact Kd.R_alloc HIO.out.1 _); (case q2 => exact lit_C wr 5 .u8 [Go.bits .xor .u8 (rd p (i : Int)) 54] (0, 0) 1 rfl (by decide)); (case q3 => exact (HB.out.alloc HB.out.size _)); (case q4 => exact ((HB.out.alloc HB.out.size _)).size); (case q5 => rw [len_xl 54 p i (by rw [LP.out]; have := H64.out; omega)]; have := H64.out; omega); intro v8 w8 hR hB hg hn; have hR := (show (Kd.int .u8).R 5 w8 wo.heap.size (fun _ => True) v8 (xl 54 p (i + 1)) by rw [xl_step 54 p i (by rw [LP.out]; exact H64.out)]; exact hR); obtain ⟨A8, c8, hv8⟩ := Kd.R_slice hR; obtain ⟨n8, hn8⟩ : ∃ n, n = (xl 54 p (i + 1)).length := ⟨_, rfl⟩; rw [← hn8] at hv8; subst hv8; have N8 := Aside0.mk (show n8 = i + 1 by rw [hn8, len_xl 54 p (i + 1) (by rw [LP.out]; exact H64.out)]); have R8i := Aside0.mk hR; have R8o := Aside0.mk (R_stay (Kd.R_alloc HIO.out.2.1 _) (ne_symm HIO.out.2.2) hg); have NE8 := Aside0.mk (ne_step (Kd.R_alloc HIO.out.2.1 _) (ne_symm HIO.out.2.2) hn); have B8 := Aside0.mk hB; have hc8 := cell.out w8 hB; clear hR hB hg hn hn8)) | ((with_reducible refine gate_builtin (b := .append) (xs := #[.tmp 35, .tmp 41]) rfl ?_); at_builtin; (refine Kd.R_append_row (w0 := wo) (Value.int .u8) (0 : Int) (h1 := fun _ => rfl) wo.heap.size rfl (.tmp 35) (.tmp 41) 22 5 (.int .u8 0) 1 rfl Try.underlying22 Pol.info_u8 rfl Nat.one_pos _ (xl 92 p i) [Go.bits .xor .u8 (rd p (i : Int)) 92] (some ⟨w8.heap.size, 0, none⟩) 1 1 (fun _ => True) rfl rfl (fun _ _ => trivial) ?q1 ?q2 ?q3 ?q4 ?q5 ?_; (case q1 => exact Kd.R_alloc R8o.out _); (case q2 => exact lit_C w8 5 .u8 [Go.bits .xor .u8 (rd p (i : Int)) 92] (0, 0) 1 rfl (by decide)); (case q3 => exact (B8.out.alloc B8.out.size _)); (case q4 => exact ((B8.out.alloc B8.out.size _)).size); (case q5 => rw [len_xl 92 p i (by rw [LP.out]; have := H64.out; omega)]; have := H64.out; omega); intro v9 w9 hR hB hg hn; have hR := (show (Kd.int .u8).R 5 w9 wo.heap.size (fun _ => True) v9 (xl 92 p (i + 1)) by rw [xl_step 92 p i (by rw [LP.out]; exact H64.out)]; exact hR); obtain ⟨A9, c9, hv9⟩ := Kd.R_slice hR; obtain ⟨n9, hn9⟩ : ∃ n, n = (xl 92 p (i + 1)).length := ⟨_, rfl⟩; rw [← hn9] at hv9; subst hv9; have N9 := Aside0.mk (show n9 = i + 1 by rw [hn9, len_xl 92 p (i + 1) (by rw [LP.out]; exact H64.out)]); have R9o := Aside0.mk hR; have R9i := Aside0.mk (R_stay (Kd.R_alloc R8i.out _) (ne_symm NE8.out) hg); have NE9 := Aside0.mk (ne_step (Kd.R_alloc R8i.out _) (ne_symm NE8.out) hn); have B9 := Aside0.mk hB; clear hR hB hg hn hn9)))
            exact ⟨⟨i + 1, H64.out, congrArg (Value.int .i64) rfl, ⟨A8, n8, c8, rfl, N8.out, A9, n9, c9, rfl, N9.out, ⟨R9i.out, R9o.out, NE9.out⟩⟩, B9⟩, meas64 i H64.out⟩
          · obtain rfl : i = 64 := by omega
            rw [show ((64 : Nat) : Int) = 64 from rfl]
            obtain ⟨x, hx⟩ : ∃ x, x = xl 54 p 64 := ⟨_, rfl⟩
            obtain ⟨y, hy⟩ : ∃ y, y = xl 92 p 64 := ⟨_, rfl⟩
            rw [← hx, ← hy] at HIO
            have LX := Aside0.mk (show x.length = 64 ∧ y.length = 64 by rw [hx, hy, len_xl 54 p 64 (by rw [LP.out]; decide), len_xl 92 p 64 (by rw [LP.out]; decide)]; exact ⟨rfl, rfl⟩)
            have HXY := Aside0.mk (show x = xorN 54 p 64 ∧ y = xorN 92 p 64 by rw [xorN_all 54 p LP.out, xorN_all 92 p LP.out]; exact ⟨hx, hy⟩)
            obtain ⟨s7, h7⟩ : ∃ s, s = x ++ l1 := ⟨_, rfl⟩
            obtain ⟨d8, h8⟩ : ∃ s, s = shaF s7 := ⟨_, rfl⟩
            obtain ⟨s9, h9⟩ : ∃ s, s = y ++ d8 := ⟨_, rfl⟩
            have S7 := Aside0.mk (And.intro h7 (show s7.length ≤ 90000064 by rw [h7, List.length_append]; have := HL.out.2; have := LX.out.1; omega))
            have S8 := Aside0.mk (And.intro h8 (show d8.length = 32 by rw [h8, len_shaF]))
            have S9 := Aside0.mk (And.intro h9 (show s9.length ≤ 96 by rw [h9, List.length_append, h8, len_shaF]; have := LX.out.2; omega))
            have C1r := Aside0.mk (Kd.C_below C1.out (BO.out.trans (HB.out.mono BO.out.size)))
            have BW := Aside0.mk (BO.out.trans (HB.out.mono BO.out.size))
            clear h7 h8 h9 hx hy h64 hi hni hno
            go_wp2_with ((with_reducible refine gate_builtin (b := .append) (xs := #[.tmp 44, .tmp 45]) rfl ?_); at_builtin; (refine Kd.R_append_row (w0 := wo) (Value.int .u8) (0 : Int) (h1 := fun _ => rfl) wo.heap.size rfl (.tmp 44) (.tmp 45) 22 5 (.int .u8 0) 1 rfl Try.underlying22 Pol.info_u8 rfl Nat.one_pos _ x l1 A1 l1.length c1 (fun _ => True) rfl rfl (fun _ _ => trivial) ?q1 ?q2 ?q3 ?q4 ?q5 ?_; (case q1 => exact HIO.out.1); (case q2 => exact C1r.out); (case q3 => exact HB.out); (case q4 => exact (HB.out).size); (case q5 => have := HL.out.2; have := LX.out.1; omega); intro v7 w7 hR hB hg _; have O7 := Aside0.mk (R_stay HIO.out.2.1 (ne_symm HIO.out.2.2) hg); obtain ⟨A7, c7, rfl, hc7, hC7⟩ := Kd.R_reads (show (Kd.int .u8).R 5 w7 wo.heap.size (fun _ => True) v7 s7 by rw [S7.out.1]; exact hR); have C7 := Aside0.mk (And.intro hC7 hc7); have B7 := Aside0.mk hB; clear hR hB hg hC7 hc7))
            refine (refSum_calls A7 c7 s7 w7 C7.out.1 C7.out.2 (Nat.le_trans S7.out.2 (by decide))).mono ?_
            rintro e w8 ⟨v8, rfl, hR8, hB8⟩
            rw [← S8.out.1] at hR8
            obtain ⟨A8, c8, rfl, hc8, hC8⟩ := Kd.R_reads hR8
            have O8 := Aside0.mk (Kd.R_below O7.out hB8)
            have C8 := Aside0.mk (And.intro hC8 hc8)
            have B8 := Aside0.mk (below_step B7.out hB8)
            clear hR8 hB8 hC8 hc8
            go_wp2_with ((with_reducible refine gate_builtin (b := .append) (xs := #[.tmp 43, .tmp 47]) rfl ?_); at_builtin; (refine Kd.R_append_row (w0 := wo) (Value.int .u8) (0 : Int) (h1 := fun _ => rfl) wo.heap.size rfl (.tmp 43) (.tmp 47) 22 5 (.int .u8 0) 1 rfl Try.underlying22 Pol.info_u8 rfl Nat.one_pos _ y d8 A8 d8.length c8 (fun _ => True) rfl rfl (fun _ _ => trivial) ?q1 ?q2 ?q3 ?q4 ?q5 ?_; (case q1 => exact O8.out); (case q2 => exact C8.out.1); (case q3 => exact B8.out); (case q4 => exact (B8.out).size); (case q5 => have := S8.out.2; have := LX.out.2; omega); intro v9 w9 hR hB _ _; obtain ⟨A9, c9, rfl, hc9, hC9⟩ := Kd.R_reads (show (Kd.int .u8).R 5 w9 wo.heap.size (fun _ => True) v9 s9 by rw [S9.out.1]; exact hR); have C9 := Aside0.mk (And.intro hC9 hc9); have B9 := Aside0.mk hB; clear hR hB hC9 hc9))
            refine (refSum_calls A9 c9 s9 w9 C9.out.1 C9.out.2 (Nat.le_trans S9.out.2 (by decide))).mono ?_
            rintro e w10 ⟨v10, rfl, hR10, hB10⟩
            have R10 := Aside0.mk hR10
            have B10 := Aside0.mk hB10
            clear hR10 hB10
            go_wp2_with fail
            go_ret
            have BX := below_step (BO.out.trans (B9.out.mono BO.out.size)) B10.out
            refine ⟨_, rfl, ?_, BX⟩
            have h := R10.out
            rw [S9.out.1, S8.out.1, S7.out.1, HXY.out.1, HXY.out.2, HP.out] at h
            rw [KK.out.1]
            exact Kd.R_lower h (Nat.le_trans BO.out.size B9.out.size)
end Go.Proofs.Ythahhjkokdillaa.Sha
