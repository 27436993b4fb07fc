/-
  Plain facts on strings made of lists of bytes.
-/
import Derived.Test.YtlpoolcdoecodaaBits
import Derived.Laws.BytesArg
namespace Go.Proofs.Ytlpoolcdoecodaa.Bits
open Go.RowKit Go.Proofs.YtlpoolcdoecodaaW.PrintWords

theorem str_inj {l m : List Int} (hl : Bytes l) (hm : Bytes m) (h : (strOfNums l).toList = (strOfNums m).toList) : l = m := by
  have h0 : (strOfNums l).data.toList = (strOfNums m).data.toList := by rw [ByteArray.toList_eq, ByteArray.toList_eq] at h; exact h
  rw [strOfNums_data, strOfNums_data] at h0
  have hlen := congrArg List.length h0
  simp only [List.length_map] at hlen
  apply List.ext_getElem hlen
  intro j h1 h2
  have hj := congrArg (fun z : List UInt8 => z[j]?) h0
  simp only [List.getElem?_map, List.getElem?_eq_getElem h1, List.getElem?_eq_getElem h2, Option.map_some, Option.some.injEq] at hj
  have e := congrArg UInt8.toNat hj
  have b1 := hl _ (List.getElem_mem h1)
  have b2 := hm _ (List.getElem_mem h2)
  simp only [UInt8.toNat_ofNat'] at e
  omega
end Go.Proofs.Ytlpoolcdoecodaa.Bits
