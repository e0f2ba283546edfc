/-
  ExprNames, the law: the walk.
-/
import Derived.Test.YtjeofffddbibeaaDoorExprNM
import Derived.Test.YtjeofffddbibeaaDoorExprE
namespace Go.Proofs.YtjeofffddbibeaaDoor.Ex
open Go Go.Maps Go.RowKit Go.Proofs.YtjeofffddbibeaaDoor.PExprTells Go.Proofs.YtjeofffddbibeaaDoorW.PrintWords Go.Proofs.YtjeofffddbibeaaDoorW.PrintLast Go.Proofs.YtjeofffddbibeaaDoorW.PrintMore
set_option linter.unusedVariables false
set_option linter.unusedSimpArgs false

theorem InBox.dr {b : Nat} {x : X} {A2 : Option Addr} {c2 : Nat} {A3 : Option Addr} {c3 : Nat} {w : World} (h : InBox b x A2 c2 A3 c3 w) (n : Nat) : InBox b x A2 c2 A3 c3 (w.drewN n) := h.later (pw_below_drewN (Below.refl _ _) _)
set_option maxHeartbeats 4000000 in
set_option maxRecDepth 100000 in
theorem ExprNames_great (x y : X) (A2 : Option Addr) (c2 : Nat) (A3 : Option Addr) (c3 : Nat) (B2 : Option Addr) (d2 : Nat) (B3 : Option Addr) (d3 : Nat) (w : World) (hx : Has w x A2 c2 A3 c3) (hy : Has w y B2 d2 B3 d3) (hcx : cnt x ≤ 1099511627776) (hcy : cnt y ≤ 1099511627776)
    (h : 1000 < cnt x ∨ 1000 < cnt y) :
    Calls Tryd.prog 3 #[agg x A2 c2 A3 c3, agg y B2 d2 B3 d3] w fun e w' => e = .returned (.bool true) ∧ Below w.heap.size w w' := by
  have CO := Aside0.mk (fun w => awake_calls w)
  have ix := (InBox.new hx 25 w.heap.size rfl).a (.cells #[.int .u8 y.f0, .string y.f1, .slice B2 y.f2.length d2, .slice B3 y.f3.length d3] 25)
  have iy := InBox.new (hy.a (.cells #[.int .u8 x.f0, .string x.f1, .slice A2 x.f2.length c2, .slice A3 x.f3.length c3] 25)) 25 (w.heap.size + 1) (by simp)
  have BB : Below w.heap.size w ((w.alloc (.cells #[.int .u8 x.f0, .string x.f1, .slice A2 x.f2.length c2, .slice A3 x.f3.length c3] 25)).alloc (.cells #[.int .u8 y.f0, .string y.f1, .slice B2 y.f2.length d2, .slice B3 y.f3.length d3] 25)) := below_alloc (below_alloc (Below.refl _ _) _) _
  have CX := Aside0.mk (Count_calls x A2 c2 A3 c3 _ ix.has hcx)
  have IX := Aside0.mk ix
  have IY := Aside0.mk iy
  have BX := Aside0.mk BB
  clear ix iy BB
  by_cases h1 : 1000 < cnt x
  · have hd : decide ((cnt x : Int) > 1000) = true := decide_eq_true (by omega)
    have hd' : decide ((1000 : Int) < (cnt x : Int)) = true := hd
    clear h h1
    go_enter Tryd.func3, Tryd.ntmps3
    go_wp2_with fail
    (with_reducible refine (CX.out).mono ?_)
    rintro e w1 ⟨rfl, b1⟩
    have BX := Aside0.mk (below_then BX.out BX.out.size b1)
    clear b1
    go_wp2_with fail
    (with_reducible refine (CO.out _).mono ?_)
    rintro e w2 ⟨rfl, b2⟩
    have BX := Aside0.mk (below_then BX.out BX.out.size b2)
    clear b2
    go_wp2
    go_ret
    exact ⟨rfl, BX.out⟩
  · have h2 : 1000 < cnt y := by omega
    have hd : decide ((cnt x : Int) > 1000) = false := decide_eq_false (by omega)
    have hd' : decide ((1000 : Int) < (cnt x : Int)) = false := hd
    have he : decide ((cnt y : Int) > 1000) = true := decide_eq_true (by omega)
    have he' : decide ((1000 : Int) < (cnt y : Int)) = true := he
    clear h h1 h2
    go_enter Tryd.func3, Tryd.ntmps3
    go_wp2_with fail
    (with_reducible refine (CX.out).mono ?_)
    rintro e w1 ⟨rfl, b1⟩
    have BX := Aside0.mk (below_then BX.out BX.out.size b1)
    have iy := IY.out.later b1
    have q0 := iy.q0
    have q1 := iy.q1
    have q2 := iy.q2
    have q3 := iy.q3
    have CY := Aside0.mk (Count_calls y B2 d2 B3 d3 _ iy.has hcy)
    clear b1 iy
    go_wp2_with fail
    (with_reducible refine (CY.out).mono ?_)
    rintro e w2 ⟨rfl, b2⟩
    have BX := Aside0.mk (below_then BX.out BX.out.size b2)
    clear b2
    go_wp2_with fail
    (with_reducible refine (CO.out _).mono ?_)
    rintro e w3 ⟨rfl, b3⟩
    have BX := Aside0.mk (below_then BX.out BX.out.size b3)
    clear b3
    go_wp2
    go_ret
    exact ⟨rfl, BX.out⟩
end Go.Proofs.YtjeofffddbibeaaDoor.Ex
