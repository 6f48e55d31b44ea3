import Derived.Lib.Hide
namespace Go.Proofs.YtcmomjnailihpaaGreatDoor
theorem A0 {α : Type _} (l : List α) (i : Nat) (a : α) : l.toArray.setIfInBounds i a = (l.set i a).toArray := List.setIfInBounds_toArray l i a
theorem A3 {α : Type _} (a : α) (l : List α) (h : 0 < (a :: l).length) : (a :: l)[0] = a := rfl
theorem A4 {α : Type _} (a : α) (l : List α) (i : Nat) (h : i + 1 < (a :: l).length) : (a :: l)[i + 1] = l[i]'(Nat.lt_of_succ_lt_succ h) := rfl
theorem A5 {α : Type _} {x : α} {l : List α} {i : Nat} {a : α} : (x :: l).set (i + 1) a = x :: l.set i a := rfl
theorem A6 {α : Type _} {x : α} {l : List α} {a : α} : (x :: l).set 0 a = a :: l := rfl
theorem A7 {α : Type _} {l : List α} {i : Nat} (h : i < l.toArray.size) : l.toArray[i] = l[i]'(by simpa using h) := rfl
theorem A8 {p : Prop} (h : p) : Go.RowKit.Hid p := Lib.hid h
theorem A9 {a b c : Nat} : a < b → b ≤ c → a < c := Nat.lt_of_lt_of_le
theorem Aa (n : Nat) : n ≤ n := Nat.le_refl n
end Go.Proofs.YtcmomjnailihpaaGreatDoor
