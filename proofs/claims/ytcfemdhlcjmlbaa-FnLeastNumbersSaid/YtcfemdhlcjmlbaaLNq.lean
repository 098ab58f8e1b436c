/- What the row needs, part 17 of 17: the texts Or, without what it does not use. -/
import Derived.Test.YtcfemdhlcjmlbaaRows
import Derived.JoinedOf
import Derived.KernelRfl
import Derived.ProofKit

/- Facts of the whole program that every row asks. -/
namespace Go.Proofs.Ytcfemdhlcjmlbaa
open Go
set_option maxRecDepth 100000
def ordN : List Nat := [104, 97, 114, 110, 101, 115, 115, 32, 100, 99, 55, 54, 50, 48, 55, 98, 102, 102, 54, 54, 56, 97, 98, 49, 54, 49, 97, 50, 48, 51, 55, 97, 102, 101, 97, 98, 49, 52, 51, 48, 57, 48, 50, 48, 53, 101, 53, 98, 101, 51, 55, 97, 57, 99, 55, 55, 54, 100, 97, 97, 53, 56, 51, 50, 100, 97, 102, 100, 54, 54, 57, 98, 32, 99, 117, 116, 32, 97, 116, 32, 108, 111, 111, 112, 46, 101, 120, 97, 109, 112, 108, 101, 47, 103, 48, 49, 50, 54, 50, 47, 108, 97, 119, 115, 46, 70, 110, 76, 101, 97, 115, 116, 78, 117, 109, 98, 101, 114, 115, 32, 108, 111, 111, 112, 46, 101, 120, 97, 109, 112, 108, 101, 47, 103, 48, 49, 50, 54, 50, 47, 108, 97, 119, 115, 46, 70, 110, 75, 110, 111, 119, 110, 84, 101, 110, 115, 111, 114, 115, 32, 108, 111, 111, 112, 46, 101, 120, 97, 109, 112, 108, 101, 47, 103, 48, 49, 50, 54, 50, 47, 108, 97, 119, 115, 46, 70, 110, 77, 101, 116, 104, 111, 100, 80, 114, 111, 100, 117, 99, 116, 115, 32, 108, 111, 111, 112, 46, 101, 120, 97, 109, 112, 108, 101, 47, 103, 48, 49, 50, 54, 50, 47, 108, 97, 119, 115, 46, 70, 110, 87, 97, 108, 107, 115, 32, 108, 111, 111, 112, 46, 101, 120, 97, 109, 112, 108, 101, 47, 103, 48, 49, 50, 54, 50, 47, 108, 97, 119, 115, 46, 70, 110, 77, 101, 116, 104, 111, 100, 115, 32, 108, 111, 111, 112, 46, 101, 120, 97, 109, 112, 108, 101, 47, 103, 48, 49, 50, 54, 50, 47, 108, 97, 119, 115, 46, 70, 110, 69, 120, 97, 99, 116, 83, 99, 104, 101, 109, 101, 115, 32, 108, 111, 111, 112, 46, 101, 120, 97, 109, 112, 108, 101, 47, 103, 48, 49, 50, 54, 50, 47, 108, 97, 119, 115, 46, 70, 110, 67, 111, 109, 112, 108, 101, 116, 105, 111, 110, 115]
theorem ordS : Try.prog.initOrder = String.ofList (ordN.map Char.ofNat) := by kernel_rfl
theorem ordL : Try.prog.initOrder.toList = ordN.map Char.ofNat := by rw [ordS, String.toList_ofList]
theorem tl_finals : "finals".toList = [102, 105, 110, 97, 108, 115].map Char.ofNat := by rw [show "finals" = String.ofList ([102, 105, 110, 97, 108, 115].map Char.ofNat) by kernel_rfl, String.toList_ofList]
theorem tl_reflectrows : "reflectrows".toList = [114, 101, 102, 108, 101, 99, 116, 114, 111, 119, 115].map Char.ofNat := by rw [show "reflectrows" = String.ofList ([114, 101, 102, 108, 101, 99, 116, 114, 111, 119, 115].map Char.ofNat) by kernel_rfl, String.toList_ofList]
theorem tl_leanrows : "leanrows".toList = [108, 101, 97, 110, 114, 111, 119, 115].map Char.ofNat := by rw [show "leanrows" = String.ofList ([108, 101, 97, 110, 114, 111, 119, 115].map Char.ofNat) by kernel_rfl, String.toList_ofList]
theorem tl_onebuild : "onebuild".toList = [111, 110, 101, 98, 117, 105, 108, 100].map Char.ofNat := by rw [show "onebuild" = String.ofList ([111, 110, 101, 98, 117, 105, 108, 100].map Char.ofNat) by kernel_rfl, String.toList_ofList]
theorem tl_publicsums : "publicsums".toList = [112, 117, 98, 108, 105, 99, 115, 117, 109, 115].map Char.ofNat := by rw [show "publicsums" = String.ofList ([112, 117, 98, 108, 105, 99, 115, 117, 109, 115].map Char.ofNat) by kernel_rfl, String.toList_ofList]
theorem tl_eqguard : "eqguard".toList = [101, 113, 103, 117, 97, 114, 100].map Char.ofNat := by rw [show "eqguard" = String.ofList ([101, 113, 103, 117, 97, 114, 100].map Char.ofNat) by kernel_rfl, String.toList_ofList]
theorem tl_ownunsafe : "ownunsafe".toList = [111, 119, 110, 117, 110, 115, 97, 102, 101].map Char.ofNat := by rw [show "ownunsafe" = String.ofList ([111, 119, 110, 117, 110, 115, 97, 102, 101].map Char.ofNat) by kernel_rfl, String.toList_ofList]
theorem tl_libbeside : "libbeside".toList = [108, 105, 98, 98, 101, 115, 105, 100, 101].map Char.ofNat := by rw [show "libbeside" = String.ofList ([108, 105, 98, 98, 101, 115, 105, 100, 101].map Char.ofNat) by kernel_rfl, String.toList_ofList]
theorem tl_ownbeside : "ownbeside".toList = [111, 119, 110, 98, 101, 115, 105, 100, 101].map Char.ofNat := by rw [show "ownbeside" = String.ofList ([111, 119, 110, 98, 101, 115, 105, 100, 101].map Char.ofNat) by kernel_rfl, String.toList_ofList]
theorem tl_reflbeside : "reflbeside".toList = [114, 101, 102, 108, 98, 101, 115, 105, 100, 101].map Char.ofNat := by rw [show "reflbeside" = String.ofList ([114, 101, 102, 108, 98, 101, 115, 105, 100, 101].map Char.ofNat) by kernel_rfl, String.toList_ofList]
theorem tl_aliases : "aliases".toList = [97, 108, 105, 97, 115, 101, 115].map Char.ofNat := by rw [show "aliases" = String.ofList ([97, 108, 105, 97, 115, 101, 115].map Char.ofNat) by kernel_rfl, String.toList_ofList]
theorem tl_afterinit : "afterinit".toList = [97, 102, 116, 101, 114, 105, 110, 105, 116].map Char.ofNat := by rw [show "afterinit" = String.ofList ([97, 102, 116, 101, 114, 105, 110, 105, 116].map Char.ofNat) by kernel_rfl, String.toList_ofList]
theorem tl_crcplain : "crcplain".toList = [99, 114, 99, 112, 108, 97, 105, 110].map Char.ofNat := by rw [show "crcplain" = String.ofList ([99, 114, 99, 112, 108, 97, 105, 110].map Char.ofNat) by kernel_rfl, String.toList_ofList]
theorem tl_roadunsafe : "roadunsafe".toList = [114, 111, 97, 100, 117, 110, 115, 97, 102, 101].map Char.ofNat := by rw [show "roadunsafe" = String.ofList ([114, 111, 97, 100, 117, 110, 115, 97, 102, 101].map Char.ofNat) by kernel_rfl, String.toList_ofList]
theorem tl_fmthandon : "fmthandon".toList = [102, 109, 116, 104, 97, 110, 100, 111, 110].map Char.ofNat := by rw [show "fmthandon" = String.ofList ([102, 109, 116, 104, 97, 110, 100, 111, 110].map Char.ofNat) by kernel_rfl, String.toList_ofList]
theorem tl_cut : "cut".toList = [99, 117, 116].map Char.ofNat := by rw [show "cut" = String.ofList ([99, 117, 116].map Char.ofNat) by kernel_rfl, String.toList_ofList]
theorem tl_gc : "gc".toList = [103, 99].map Char.ofNat := by rw [show "gc" = String.ofList ([103, 99].map Char.ofNat) by kernel_rfl, String.toList_ofList]
theorem tl_spec : "spec".toList = [115, 112, 101, 99].map Char.ofNat := by rw [show "spec" = String.ofList ([115, 112, 101, 99].map Char.ofNat) by kernel_rfl, String.toList_ofList]
theorem tl_carried : "carried".toList = [99, 97, 114, 114, 105, 101, 100].map Char.ofNat := by rw [show "carried" = String.ofList ([99, 97, 114, 114, 105, 101, 100].map Char.ofNat) by kernel_rfl, String.toList_ofList]
theorem tl_harness : "harness".toList = [104, 97, 114, 110, 101, 115, 115].map Char.ofNat := by rw [show "harness" = String.ofList ([104, 97, 114, 110, 101, 115, 115].map Char.ofNat) by kernel_rfl, String.toList_ofList]
theorem tl_ownmain : "ownmain".toList = [111, 119, 110, 109, 97, 105, 110].map Char.ofNat := by rw [show "ownmain" = String.ofList ([111, 119, 110, 109, 97, 105, 110].map Char.ofNat) by kernel_rfl, String.toList_ofList]
theorem ordW : behindMainWord (wordsSigns (ordN.map Char.ofNat)) = ([99, 117, 116].map Char.ofNat) :: (behindMainWord (wordsSigns (ordN.map Char.ofNat))).tail := by
  unfold behindMainWord
  rw [tl_harness, tl_ownmain]
  kernel_rfl
theorem ordC : behindMainWord (wordsSigns Try.prog.initOrder.toList) = ([99, 117, 116].map Char.ofNat) :: (behindMainWord (wordsSigns (ordN.map Char.ofNat))).tail := by
  rw [ordL]; exact ordW
theorem strip0 (r : List (List Char)) : stripLifts liftWords (([99, 117, 116].map Char.ofNat) :: r) = ([], ([99, 117, 116].map Char.ofNat) :: r) := by
  unfold liftWords
  simp only [stripLifts, tl_finals, tl_reflectrows, tl_leanrows, tl_onebuild, tl_publicsums, tl_eqguard, tl_ownunsafe, tl_libbeside, tl_ownbeside, tl_reflbeside, tl_aliases, tl_afterinit, tl_crcplain, tl_roadunsafe, tl_fmthandon]
  kernel_rfl
theorem cut_gc : (([99, 117, 116].map Char.ofNat) == "gc".toList || ([99, 117, 116].map Char.ofNat) == "spec".toList) = false := by rw [tl_gc, tl_spec]; kernel_rfl
theorem cut_cut : (([99, 117, 116].map Char.ofNat) == "cut".toList) = true := by rw [tl_cut]; kernel_rfl
theorem cut_carried : (([99, 117, 116].map Char.ofNat) == "carried".toList) = false := by rw [tl_carried]; kernel_rfl
theorem gen_make {P : Program} {c : List Char} {r : List (List Char)} (h : behindMainWord (wordsSigns P.initOrder.toList) = c :: r) (h1 : (c == "gc".toList || c == "spec".toList) = false) (h2 : (c == "cut".toList) = true) : P.make = some .cut := by
  unfold Program.make
  rw [h]
  simp only [h1, h2, Bool.true_or, if_true, Bool.false_eq_true, if_false]
theorem gen_head {P : Program} {c : List Char} {r : List (List Char)} (h : behindMainWord (wordsSigns P.initOrder.toList) = c :: r) (hs : stripLifts liftWords (c :: r) = ([], c :: r)) : P.headLifts = [] := by
  unfold Program.headLifts
  rw [h, hs]
  simp only [ite_self]
theorem gen_lifts {P : Program} {c : List Char} {r : List (List Char)} (h : behindMainWord (wordsSigns P.initOrder.toList) = c :: r) (hh : P.headLifts = []) (h3 : (c == "carried".toList) = false) : P.liftsFinal = false := by
  have h4 : ((c :: r).head? == some "carried".toList) = false := h3
  unfold Program.liftsFinal
  rw [h, hh]
  simp only [h4, Bool.false_and, Bool.false_or, List.contains_nil]
theorem gen_enter {P : Program} {c : List Char} {r : List (List Char)} (h : behindMainWord (wordsSigns P.initOrder.toList) = c :: r) (hs : stripLifts liftWords (c :: r) = ([], c :: r)) (h1 : (c == "gc".toList || c == "spec".toList) = false) (h2 : (c == "cut".toList) = true) (h3 : (c == "carried".toList) = false)
    (a : P.laysLater = false) (b : P.bearsReflect = false) (d : P.doorFits [] = true) : P.mayEnter = true := by
  have h4 : ((c :: r).head? == some "cut".toList) = true := h2
  unfold Program.mayEnter
  rw [h]
  simp only [hs, h1, h3, h4, a, b, d, Bool.false_and, Bool.false_or, Bool.not_false, Bool.or_true, Bool.and_true, Bool.true_and, List.contains_nil]
theorem ordHead : Try.prog.headLifts = [] := gen_head ordC (strip0 _)
theorem ordMake : Try.prog.make = some .cut := gen_make ordC cut_gc cut_cut
theorem ordLifts : Try.prog.liftsFinal = false := gen_lifts ordC ordHead cut_carried
theorem lays0 : Try.prog.laysLater = false := by kernel_rfl
theorem bears0 : Try.prog.bearsReflect = false := by kernel_rfl
theorem door0 : Try.prog.doorFits [] = true := by kernel_rfl
theorem ordEnter : Try.prog.mayEnter = true := gen_enter ordC (strip0 _) cut_gc cut_cut cut_carried lays0 bears0 door0
theorem laidOut : laidOutB Try.prog = true := by kernel_rfl
theorem mapsR : mapsRowed Try.prog = true := by kernel_rfl
theorem stopsR : Try.prog.stopsHeard = true := by kernel_rfl
theorem own : ownKnob Try.prog.godebug = none := by kernel_rfl
end Go.Proofs.Ytcfemdhlcjmlbaa
