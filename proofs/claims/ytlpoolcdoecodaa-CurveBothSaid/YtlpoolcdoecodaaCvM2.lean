/-
  The number 2^255 - 19 is prime.
-/
import Derived.Test.YtlpoolcdoecodaaCvM1
namespace Go.Proofs.Ytlpoolcdoecodaa.Pq
set_option linter.unusedVariables false
set_option maxRecDepth 100000
theorem pockB {N q R a w : Nat} (hq : Pr q) (f : Nat) (hf : N < 2 ^ f) (hN : N = q * R + 1) (h1 : pw N a f (N - 1) % N = 1 % N) (h2 : (pw N a f R % N * w) % N = (w + 1) % N) {r : Nat} (hr : Pr r) (hd : r ∣ N) : q ∣ r - 1 := by
  have hq1 := hq.1
  have hR : R < 2 ^ f := by
    have : R ≤ q * R := Nat.le_mul_of_pos_left R (by omega)
    omega
  rw [pw_eq N f a (N - 1) (by omega)] at h1
  rw [pw_eq N f a R hR] at h2
  have h3 : a ^ R * w % N = a ^ R % N * w % N := by
    rw [Nat.mul_mod (a ^ R) w N, Nat.mul_mod (a ^ R % N) w N, Nat.mod_mod]
  exact pock (w := w) hq hN h1 (h3.trans h2) hr hd
theorem pr991 : Pr 991 := prime_small 32 (by decide +kernel) (by decide +kernel) (by decide +kernel)
theorem pr103 : Pr 103 := prime_small 11 (by decide +kernel) (by decide +kernel) (by decide +kernel)
theorem pr8574133 : Pr 8574133 := prime_of (F := 102073) (by decide +kernel) (by decide +kernel) fun r hr hd => by
  rw [show 102073 = 991 * 103 by decide +kernel]
  exact Nat.Coprime.mul_dvd_of_dvd_of_dvd (by decide +kernel)
    (pockB (R := 8652) (a := 2) (w := 1014251) pr991 24 (by decide +kernel) (by decide +kernel) (by decide +kernel) (by decide +kernel) hr hd)
    (pockB (R := 83244) (a := 2) (w := 3531099) pr103 24 (by decide +kernel) (by decide +kernel) (by decide +kernel) (by decide +kernel) hr hd)
theorem pr127 : Pr 127 := prime_small 12 (by decide +kernel) (by decide +kernel) (by decide +kernel)
theorem pr1919519569386763 : Pr 1919519569386763 := prime_of (F := 1088914891) (by decide +kernel) (by decide +kernel) fun r hr hd => by
  rw [show 1088914891 = 8574133 * 127 by decide +kernel]
  exact Nat.Coprime.mul_dvd_of_dvd_of_dvd (by decide +kernel)
    (pockB (R := 223873314) (a := 2) (w := 1290547218147893) pr8574133 51 (by decide +kernel) (by decide +kernel) (by decide +kernel) (by decide +kernel) hr hd)
    (pockB (R := 15114327318006) (a := 2) (w := 1870148777187772) pr127 51 (by decide +kernel) (by decide +kernel) (by decide +kernel) (by decide +kernel) hr hd)
theorem pr569003 : Pr 569003 := prime_small 755 (by decide +kernel) (by decide +kernel) (by decide +kernel)
theorem pr2773320623 : Pr 2773320623 := prime_of (F := 569003) (by decide +kernel) (by decide +kernel) fun r hr hd => pockB (R := 4874) (a := 2) (w := 2440407146) pr569003 32 (by decide +kernel) (by decide +kernel) (by decide +kernel) (by decide +kernel) hr hd
theorem pr72106336199 : Pr 72106336199 := prime_of (F := 2773320623) (by decide +kernel) (by decide +kernel) fun r hr hd => pockB (R := 26) (a := 2) (w := 8149528284) pr2773320623 37 (by decide +kernel) (by decide +kernel) (by decide +kernel) (by decide +kernel) hr hd
theorem pr75445702479781427272750846543864801 : Pr 75445702479781427272750846543864801 := prime_of (F := 138409523410761641138333837) (by decide +kernel) (by decide +kernel) fun r hr hd => by
  rw [show 138409523410761641138333837 = 1919519569386763 * 72106336199 by decide +kernel]
  exact Nat.Coprime.mul_dvd_of_dvd_of_dvd (by decide +kernel)
    (pockB (R := 39304471641247389600) (a := 2) (w := 74602835786463724888147869570305675) pr1919519569386763 116 (by decide +kernel) (by decide +kernel) (by decide +kernel) (by decide +kernel) hr hd)
    (pockB (R := 1046311689884858398375200) (a := 2) (w := 55965016733432503242248684386325671) pr72106336199 116 (by decide +kernel) (by decide +kernel) (by decide +kernel) (by decide +kernel) hr hd)
theorem pr430751 : Pr 430751 := prime_small 657 (by decide +kernel) (by decide +kernel) (by decide +kernel)
theorem pr4153 : Pr 4153 := prime_small 65 (by decide +kernel) (by decide +kernel) (by decide +kernel)
theorem pr31757755568855353 : Pr 31757755568855353 := prime_of (F := 1788908903) (by decide +kernel) (by decide +kernel) fun r hr hd => by
  rw [show 1788908903 = 430751 * 4153 by decide +kernel]
  exact Nat.Coprime.mul_dvd_of_dvd_of_dvd (by decide +kernel)
    (pockB (R := 73726481352) (a := 2) (w := 15419847897348699) pr430751 55 (by decide +kernel) (by decide +kernel) (by decide +kernel) (by decide +kernel) hr hd)
    (pockB (R := 7646943310584) (a := 2) (w := 25117532289192573) pr4153 55 (by decide +kernel) (by decide +kernel) (by decide +kernel) (by decide +kernel) hr hd)
theorem pr74058212732561358302231226437062788676166966415465897661863160754340907 : Pr 74058212732561358302231226437062788676166966415465897661863160754340907 := prime_of (F := 2395986178073482737347378734667165195040796357129753) (by decide +kernel) (by decide +kernel) fun r hr hd => by
  rw [show 2395986178073482737347378734667165195040796357129753 = 75445702479781427272750846543864801 * 31757755568855353 by decide +kernel]
  exact Nat.Coprime.mul_dvd_of_dvd_of_dvd (by decide +kernel)
    (pockB (R := 981609426360740691344999861639072106) (a := 2) (w := 70463328703800545008217672123162676565183935400628861884889913886334520) pr75445702479781427272750846543864801 236 (by decide +kernel) (by decide +kernel) (by decide +kernel) (by decide +kernel) hr hd)
    (pockB (R := 2331972502653487852620185443007392165117953542933313402) (a := 2) (w := 18232248056023258384404751131439975669387062239511397558448549501188471) pr31757755568855353 236 (by decide +kernel) (by decide +kernel) (by decide +kernel) (by decide +kernel) hr hd)
theorem pr57896044618658097711785492504343953926634992332820282019728792003956564819949 : Pr 57896044618658097711785492504343953926634992332820282019728792003956564819949 := prime_of (F := 74058212732561358302231226437062788676166966415465897661863160754340907) (by decide +kernel) (by decide +kernel) fun r hr hd => pockB (R := 781764) (a := 2) (w := 55540832096118778044507775605005710249233119951144946814680141076505643269084) pr74058212732561358302231226437062788676166966415465897661863160754340907 255 (by decide +kernel) (by decide +kernel) (by decide +kernel) (by decide +kernel) hr hd
end Go.Proofs.Ytlpoolcdoecodaa.Pq
