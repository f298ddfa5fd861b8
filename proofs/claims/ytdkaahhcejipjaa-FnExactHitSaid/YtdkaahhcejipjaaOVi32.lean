/- A counted loop over a list is a fold. -/
import Derived.Test.YtdkaahhcejipjaaOVi31
set_option linter.unusedVariables false
set_option linter.unusedSimpArgs false
set_option linter.unnecessarySimpa false
set_option linter.unusedSectionVars false
namespace Go.Vi
open Go

def foldE {α ε : Type} (f : α → D → Except ε α) : α → List D → Except ε α
  | a, [] => .ok a
  | a, x :: xs => match f a x with
    | .ok a => foldE f a xs
    | .error e => .error e
def foldR {α ε ρ : Type} (f : α → D → Except ε α) (r : α → ρ) (q : ε → ρ) (a : α) (xs : List D) : ρ := match foldE f a xs with
  | .ok a => r a
  | .error e => q e

theorem loop_list {α ε : Type} {o : Ora} (key : Nat) (S : Int → α → St) (xs : List D) (n : Int) (hn : (xs.length : Int) = n) (f : α → D → Except ε α) (r : α → Out × St) (q : ε → Out × St)
    (hend : ∀ a, o.loop key (S n a) = some (r a))
    (hgo : ∀ k a x a', 0 ≤ k → k < n → xs[k.toNat]? = some x → f a x = .ok a' → ∀ z, o.loop key (S (k + 1) a') = some z → o.loop key (S k a) = some z)
    (hout : ∀ k a x e, 0 ≤ k → k < n → xs[k.toNat]? = some x → f a x = .error e → o.loop key (S k a) = some (q e)) (a : α) :
    o.loop key (S 0 a) = some (foldR f r q a xs) := by
  have main : ∀ (ys : List D) (k : Nat) (a : α), xs.drop k = ys → k + ys.length = xs.length → o.loop key (S k a) = some (foldR f r q a ys) := by
    intro ys
    induction ys with
    | nil =>
      intro k a _ h
      have he : (k : Int) = n := by simp at h; omega
      rw [he]
      exact hend a
    | cons y ys ih =>
      intro k a h hl
      have hk : xs[k]? = some y := by
        have : (xs.drop k)[0]? = some y := by rw [h]; rfl
        simpa using this
      have hd : xs.drop (k + 1) = ys := by
        have : (xs.drop k).drop 1 = ys := by rw [h]; rfl
        simpa [List.drop_drop] using this
      have hl' : k + 1 + ys.length = xs.length := by simp at hl; omega
      have hlt : (k : Int) < n := by omega
      unfold foldR
      simp only [foldE]
      cases hf : f a y with
      | ok a' => exact hgo k a y a' (by omega) hlt (by simpa using hk) hf _ (ih (k + 1) a' hd hl')
      | error e => exact hout k a y e (by omega) hlt (by simpa using hk) hf
  exact main xs 0 a rfl (by simp)

/-- The same, where the place counts. -/
def foldI {α ε : Type} (f : Int → α → D → Except ε α) : Int → α → List D → Except ε α
  | _, a, [] => .ok a
  | k, a, x :: xs => match f k a x with
    | .ok a => foldI f (k + 1) a xs
    | .error e => .error e
def foldJ {α ε ρ : Type} (f : Int → α → D → Except ε α) (r : α → ρ) (q : ε → ρ) (a : α) (xs : List D) : ρ := match foldI f 0 a xs with
  | .ok a => r a
  | .error e => q e

theorem loop_listI {α ε : Type} {o : Ora} (key : Nat) (S : Int → α → St) (xs : List D) (n : Int) (hn : (xs.length : Int) = n) (f : Int → α → D → Except ε α) (r : α → Out × St) (q : ε → Out × St)
    (hend : ∀ a, o.loop key (S n a) = some (r a))
    (hgo : ∀ k a x a', 0 ≤ k → k < n → xs[k.toNat]? = some x → f k a x = .ok a' → ∀ z, o.loop key (S (k + 1) a') = some z → o.loop key (S k a) = some z)
    (hout : ∀ k a x e, 0 ≤ k → k < n → xs[k.toNat]? = some x → f k a x = .error e → o.loop key (S k a) = some (q e)) (a : α) :
    o.loop key (S 0 a) = some (foldJ f r q a xs) := by
  have main : ∀ (ys : List D) (k : Nat) (a : α), xs.drop k = ys → k + ys.length = xs.length → o.loop key (S k a) = some (match foldI f k a ys with | .ok a => r a | .error e => q e) := by
    intro ys
    induction ys with
    | nil =>
      intro k a _ h
      have he : (k : Int) = n := by simp at h; omega
      rw [he]
      exact hend a
    | cons y ys ih =>
      intro k a h hl
      have hk : xs[k]? = some y := by
        have : (xs.drop k)[0]? = some y := by rw [h]; rfl
        simpa using this
      have hd : xs.drop (k + 1) = ys := by
        have : (xs.drop k).drop 1 = ys := by rw [h]; rfl
        simpa [List.drop_drop] using this
      have hl' : k + 1 + ys.length = xs.length := by simp at hl; omega
      have hlt : (k : Int) < n := by omega
      simp only [foldI]
      cases hf : f k a y with
      | ok a' => exact hgo k a y a' (by omega) hlt (by simpa using hk) hf _ (ih (k + 1) a' hd hl')
      | error e => exact hout k a y e (by omega) hlt (by simpa using hk) hf
  exact main xs 0 a rfl (by simp)

theorem foldI_err {α ε : Type} {f : Int → α → D → Except ε α} {e : ε} : ∀ {xs : List D} {k : Nat} {a : α}, foldI f k a xs = .error e → ∃ (j : Nat) (x : D) (a' : α), k ≤ j ∧ xs[j - k]? = some x ∧ f j a' x = .error e
  | [], k, a, h => by simp [foldI] at h
  | x :: xs, k, a, h => by
    simp only [foldI] at h
    cases hf : f k a x with
    | ok a' =>
      rw [hf] at h
      obtain ⟨j, y, a2, h1, h2, h3⟩ := foldI_err (k := k + 1) (by simpa using h)
      exact ⟨j, y, a2, by omega, by rw [show j - k = (j - (k + 1)) + 1 by omega]; simpa using h2, h3⟩
    | error e' =>
      rw [hf] at h
      injection h with h
      subst h
      exact ⟨k, x, a, Nat.le_refl _, by simp, hf⟩
end Go.Vi
