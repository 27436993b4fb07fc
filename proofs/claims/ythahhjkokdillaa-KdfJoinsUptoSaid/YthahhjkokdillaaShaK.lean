/-
  SHA-256's constants (kdf.fractions).
-/
import Derived.Test.YthahhjkokdillaaArr2
import Derived.Test.YthahhjkokdillaaWMore
namespace Go.Proofs.Ythahhjkokdillaa.Sha
open Go.RowKit Go.Proofs.YthahhjkokdillaaW.PrintWords Go.Proofs.YthahhjkokdillaaW.PrintLast Go.Proofs.YthahhjkokdillaaW.PrintMore Go.Proofs.Ythahhjkokdillaa.Arr
def frac : List Int := [1116352408, 1899447441, 3049323471, 3921009573, 961987163, 1508970993, 2453635748, 2870763221, 3624381080, 310598401, 607225278, 1426881987, 1925078388, 2162078206, 2614888103, 3248222580, 3835390401, 4022224774, 264347078, 604807628, 770255983, 1249150122, 1555081692, 1996064986, 2554220882, 2821834349, 2952996808, 3210313671, 3336571891, 3584528711, 113926993, 338241895, 666307205, 773529912, 1294757372, 1396182291, 1695183700, 1986661051, 2177026350, 2456956037, 2730485921, 2820302411, 3259730800, 3345764771, 3516065817, 3600352804, 4094571909, 275423344, 430227734, 506948616, 659060556, 883997877, 958139571, 1322822218, 1537002063, 1747873779, 1955562222, 2024104815, 2227730452, 2361852424, 2428436474, 2756734187, 3204031479, 3329325298]
theorem len_frac : frac.length = 64 := rfl
theorem C_of_is {w : World} {b : Nat} {e : TypeId} {k : IntKind} {xs : List Int} (h : Is w b e k xs) (n : Nat) (hn : xs.length = n) (hm : n ≤ 9223372036854775807) : (Kd.int k).C w (some ⟨b, 0, none⟩) n xs := by
  subst hn
  refine Kd.C_of_reads (enc := Value.int k) (d := (0 : Int)) (h1 := fun _ => rfl) ⟨rfl, hm, fun _ => ⟨_, rfl, fun j hj => ?_⟩⟩
  rw [add_plain, h.cell j hj]
  simp [rd, List.getD_eq_getElem?_getD, hj]
set_option maxHeartbeats 4000000 in
set_option maxRecDepth 100000 in
theorem frac_calls (w : World) : Calls Try.prog 39 #[] w fun e w' => e = .returned (.slice (some ⟨w.heap.size, 0, none⟩) 64 64) ∧ Is w' w.heap.size 63 .u32 frac ∧ Below w.heap.size w w' := by
  have L := Aside0.mk (new_is w 63 .u32 frac)
  have B := Aside0.mk (show Below w.heap.size w (w.alloc (.cells (nums .u32 frac).toArray 63)) from (Below.refl _ _).alloc (Nat.le_refl _) _)
  go_enter Try.func39, Try.ntmps39
  go_wp2_with ((with_reducible refine gate_dst (N := 1) rfl ?_); refine Kd.event_run (v := .slice (some ⟨w.heap.size, 0, none⟩) 64 64) (w1 := w.alloc (.cells (nums .u32 frac).toArray 63)) rfl (by kernel_rfl) ?_)
  go_ret
  exact ⟨rfl, L.out, B.out⟩
end Go.Proofs.Ythahhjkokdillaa.Sha
