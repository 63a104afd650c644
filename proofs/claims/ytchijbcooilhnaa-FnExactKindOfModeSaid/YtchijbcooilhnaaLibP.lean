/- Plain laws: what the functions of the program compute, as Lean functions on data. No program in sight; no conditions. -/
import Derived.Test.YtchijbcooilhnaaLibG
namespace Go.Sw

def kindName (k : Int) : Str :=
  if k = 1 then [112, 97, 103, 101] else if k = 2 then [115, 99, 114, 105, 112, 116] else if k = 3 then [115, 116, 121, 108, 101] else if k = 4 then [105, 109, 97, 103, 101] else if k = 5 then [109, 111, 100, 117, 108, 101] else []
theorem kindName_out {k : Int} (h : k < 1 ∨ 5 < k) : kindName k = [] := by
  unfold kindName
  repeat (rw [if_neg (by omega)])

def verdictName (k : Int) : Str :=
  if k = 1 then [111, 107] else if k = 2 then [112, 111, 108, 105, 99, 121] else if k = 3 then [115, 116, 97, 116, 117, 115] else if k = 4 then [107, 105, 110, 100] else if k = 5 then [115, 104, 97, 114, 101] else if k = 6 then [100, 105, 103, 101, 115, 116] else []
theorem verdictName_out {k : Int} (h : k < 1 ∨ 6 < k) : verdictName k = [] := by
  unfold verdictName
  repeat (rw [if_neg (by omega)])

def kindOfMode (m : Int) : Int := if m = 1 then 4 else if m = 2 then 3 else if m = 3 ∨ m = 4 then 2 else 0
theorem kindOfMode_out {m : Int} (h1 : ¬ m = 1) (h2 : ¬ m = 2) (h3 : ¬ m = 3) (h4 : ¬ m = 4) : kindOfMode m = 0 := by simp [kindOfMode, h1, h2, h3, h4]
def notFound : TResponse := ⟨404, 1, [], 0, false, []⟩
def fitsKind (xk kind : Int) : Bool := decide (xk = kind) || (decide (kind = 5) && decide (xk = 2))

/-- What is left of a purse behind n. -/
def lessN (left : Int) (n : Nat) : Int := if left - n < 0 then -1 else left - n
theorem lessN_lt {left : Int} {n : Nat} (h : left < (n : Int)) : lessN left n = -1 := by unfold lessN; rw [if_pos (by omega)]
theorem lessN_ge {left : Int} {n : Nat} (h : (n : Int) ≤ left) : lessN left n = left - n := by unfold lessN; rw [if_neg (by omega)]
theorem lessN_nn {left : Int} {n : Nat} (_h0 : 0 ≤ left) (h : ¬ lessN left n < 0) : (n : Int) ≤ left ∧ lessN left n = left - n := by
  unfold lessN at h ⊢
  by_cases hc : left - n < 0
  · rw [if_pos hc] at h; omega
  · rw [if_neg hc]; omega
def TResponse.size (x : TResponse) : Nat := x.body.length + x.policy.length

end Go.Sw
