/-
  The Internet's checksum in plain terms: the words of bytes, their sum in ones' complement; no program in sight.
-/
namespace Go.Proofs.Ytfkcejfjmfliaaa

/-- one byte more: the words that are whole, and the high byte that waits -/
def stp (s : List Int × Option Int) (c : Int) : List Int × Option Int :=
  match s.2 with
  | none => (s.1, some c)
  | some h => (s.1 ++ [h * 256 + c], none)
def runw (l : List Int) : List Int × Option Int := l.foldl stp ([], none)
def rest : Option Int → List Int
  | none => []
  | some h => [h * 256]
/-- the words of bytes -/
def wds (l : List Int) : List Int := (runw l).1 ++ rest (runw l).2
/-- two sums -/
def addw (a b : Int) : Int := (a + b) % 65536 + (a + b) / 65536
/-- the sum of words, from a start -/
def fold (n : Int) (ws : List Int) : Int := ws.foldl addw n
def sumw (l : List Int) : Int := fold 0 (wds l)

theorem runw_snoc (l : List Int) (c : Int) : runw (l ++ [c]) = stp (runw l) c := by simp [runw]
theorem fold_snoc (n : Int) (l : List Int) (c : Int) : fold n (l ++ [c]) = addw (fold n l) c := by simp [fold]
theorem fold_append (n : Int) (l m : List Int) : fold n (l ++ m) = fold (fold n l) m := by simp [fold]
theorem stp_le (s : List Int × Option Int) (c : Int) : (stp s c).1.length ≤ s.1.length + 1 := by
  unfold stp
  split <;> simp
theorem foldl_stp_le (l : List Int) : ∀ s : List Int × Option Int, (l.foldl stp s).1.length ≤ s.1.length + l.length := by
  induction l with
  | nil => intro s; simp
  | cons c l ih =>
    intro s
    have h := ih (stp s c)
    have := stp_le s c
    simp only [List.foldl_cons, List.length_cons]
    omega
theorem runw_le (l : List Int) : (runw l).1.length ≤ l.length := by
  have := foldl_stp_le l ([], none)
  simpa [runw] using this
theorem addw_rng {a b : Int} (ha : 0 ≤ a ∧ a < 65536) (hb : 0 ≤ b ∧ b < 65536) : 0 ≤ addw a b ∧ addw a b < 65536 := by unfold addw; omega
theorem fold_rng (n : Int) (hn : 0 ≤ n ∧ n < 65536) (l : List Int) (h : ∀ x ∈ l, 0 ≤ x ∧ x < 65536) : 0 ≤ fold n l ∧ fold n l < 65536 := by
  induction l generalizing n with
  | nil => exact hn
  | cons c l ih => exact ih (addw n c) (addw_rng hn (h c (by simp))) (fun x hx => h x (by simp [hx]))
theorem stp_rng {s : List Int × Option Int} {c : Int} (h1 : ∀ x ∈ s.1, 0 ≤ x ∧ x < 65536) (h2 : ∀ h, s.2 = some h → 0 ≤ h ∧ h ≤ 255) (hc : 0 ≤ c ∧ c ≤ 255) :
    (∀ x ∈ (stp s c).1, 0 ≤ x ∧ x < 65536) ∧ ∀ h, (stp s c).2 = some h → 0 ≤ h ∧ h ≤ 255 := by
  unfold stp
  split
  · exact ⟨h1, fun h e => by injection e with e; omega⟩
  · rename_i h e
    have := h2 h e
    refine ⟨fun x hx => ?_, fun h e => by cases e⟩
    rcases List.mem_append.1 hx with hx | hx
    · exact h1 x hx
    · simp at hx; omega
theorem foldl_stp_rng (l : List Int) (hl : ∀ x ∈ l, 0 ≤ x ∧ x ≤ 255) : ∀ s : List Int × Option Int, (∀ x ∈ s.1, 0 ≤ x ∧ x < 65536) → (∀ h, s.2 = some h → 0 ≤ h ∧ h ≤ 255) →
    (∀ x ∈ (l.foldl stp s).1, 0 ≤ x ∧ x < 65536) ∧ ∀ h, (l.foldl stp s).2 = some h → 0 ≤ h ∧ h ≤ 255 := by
  induction l with
  | nil => exact fun s h1 h2 => ⟨h1, h2⟩
  | cons c l ih =>
    intro s h1 h2
    have := stp_rng h1 h2 (hl c (by simp))
    exact ih (fun x hx => hl x (by simp [hx])) _ this.1 this.2
theorem wds_rng (l : List Int) (hl : ∀ x ∈ l, 0 ≤ x ∧ x ≤ 255) : ∀ x ∈ wds l, 0 ≤ x ∧ x < 65536 := by
  have h := foldl_stp_rng l hl ([], none) (by simp) (by simp)
  intro x hx
  unfold wds at hx
  rcases List.mem_append.1 hx with hx | hx
  · exact h.1 x hx
  · cases e : (runw l).2 with
    | none => rw [e] at hx; simp [rest] at hx
    | some y =>
      have := h.2 y e
      rw [e] at hx
      simp [rest] at hx
      omega
theorem sumw_rng (l : List Int) (hl : ∀ x ∈ l, 0 ≤ x ∧ x ≤ 255) : 0 ≤ sumw l ∧ sumw l < 65536 := fold_rng 0 (by omega) _ (wds_rng l hl)

theorem foldl_stp_even : ∀ (l : List Int) (ws : List Int), l.length % 2 = 0 → (l.foldl stp (ws, none)).2 = none
  | [], _, _ => rfl
  | [_], _, h => by simp at h
  | a :: b :: l, ws, h => by
    simp only [List.foldl_cons, stp]
    exact foldl_stp_even l _ (by simp only [List.length_cons] at h; omega)
theorem runw_even (l : List Int) (h : l.length % 2 = 0) : (runw l).2 = none := foldl_stp_even l [] h
theorem wds_even (l : List Int) (h : l.length % 2 = 0) : wds l = (runw l).1 := by unfold wds; rw [runw_even l h]; simp [rest]
/-- two bytes more behind an even number of them; or one, the last -/
theorem wds_two (l : List Int) (h : l.length % 2 = 0) (a b : Int) : wds (l ++ [a, b]) = wds l ++ [a * 256 + b] := by
  have h1 : l ++ [a, b] = (l ++ [a]) ++ [b] := by simp
  rw [wds_even (l ++ [a, b]) (by simp; omega), h1, runw_snoc, runw_snoc, wds_even l h]
  have := runw_even l h
  generalize runw l = r at this
  obtain ⟨x, y⟩ := r
  simp only at this
  subst this
  rfl
theorem wds_one (l : List Int) (h : l.length % 2 = 0) (a : Int) : wds (l ++ [a]) = wds l ++ [a * 256] := by
  unfold wds
  rw [runw_snoc, runw_even l h]
  have := runw_even l h
  generalize runw l = r at this
  obtain ⟨x, y⟩ := r
  simp only at this
  subst this
  simp [stp, rest]
theorem foldl_stp_pre (l : List Int) : ∀ (s : List Int × Option Int), l.foldl stp s = (s.1 ++ (l.foldl stp ([], s.2)).1, (l.foldl stp ([], s.2)).2) := by
  induction l with
  | nil => intro s; simp
  | cons c l ih =>
    intro s
    obtain ⟨ws, p⟩ := s
    cases p with
    | none => simp only [List.foldl_cons, stp]; exact ih (ws, some c)
    | some h =>
      simp only [List.foldl_cons, stp, List.nil_append]
      rw [ih (ws ++ [h * 256 + c], none), ih ([h * 256 + c], none)]
      simp
theorem wds_append (l m : List Int) (h : l.length % 2 = 0) : wds (l ++ m) = wds l ++ wds m := by
  have h1 := runw_even l h
  unfold wds
  have h2 : runw (l ++ m) = ((runw l).1 ++ (runw m).1, (runw m).2) := by
    unfold runw
    rw [List.foldl_append, foldl_stp_pre m]
    unfold runw at h1
    rw [h1]
  rw [h2, h1]
  simp [rest]
theorem wds_len (l : List Int) : (wds l).length ≤ l.length + 1 := by
  have := runw_le l
  unfold wds
  rw [List.length_append]
  cases (runw l).2 <;> simp [rest] <;> omega

/-- ones' complement of each word -/
def neg (l : List Int) : List Int := l.map (65535 - ·)
theorem neg_snoc (l : List Int) (x : Int) : neg (l ++ [x]) = neg l ++ [65535 - x] := by simp [neg]
/-- the sum of a start, words of one row turned, words of another one; and the error's number -/
def changedS (n : Int) (t p : List Int) : Int × Int :=
  if t.length = p.length ∧ p.length % 2 = 0 then (fold (fold n (neg (wds t))) (wds p), 0) else (0, 10)
end Go.Proofs.Ytfkcejfjmfliaaa
