/- The cells of the bodies that are filled, group by group; the cells of a body; bodies that are cut. No program. -/
import Derived.Test.YtghcnipehgjegaaPackPlain
namespace Go.Proofs.Ytghcnipehgjegaa.Plain
open Go
set_option linter.unusedVariables false
set_option linter.unusedSimpArgs false
theorem encAll_nil : encAll [] = [] := rfl
theorem encAll_cons (x : Cel) (l : List Cel) : encAll (x :: l) = encS x ++ encAll l := by simp [encAll]
theorem encAll_append (l m : List Cel) : encAll (l ++ m) = encAll l ++ encAll m := by simp [encAll]
/-- A body's cells; none, where it isn't one. -/
def openS : Nat → List Int → Option (List Cel)
  | 0, _ => none
  | f + 1, b => if b.length = 0 then some [] else if (decS b).2.2 = 0 then (openS f (decS b).2.1).map (fun l => (decS b).1 :: l) else none
abbrev FineL (l : List Cel) : Prop := ∀ x ∈ l, CelWf x ∧ rightB x = true
theorem open_all : ∀ (l : List Cel) (f : Nat), FineL l → l.length < f → openS f (encAll l) = some l
  | [], f + 1, _, _ => by simp [openS, encAll]
  | x :: l, f + 1, h, hf => by
    obtain ⟨hw, hr⟩ := h x (by simp)
    have hl := (encS_len x hw hr).2.2
    rw [encAll_cons, openS, if_neg (by rw [List.length_append]; omega), dec_all x hw hr]
    simp only [↓reduceIte]
    rw [open_all l f (fun y hy => h y (by simp [hy])) (by simpa using hf)]
    rfl
/-- A byte behind it that begins no cell. -/
theorem dec_odd {z : Int} (hz : ¬ (1 ≤ z ∧ z ≤ 8)) (h0 : 0 ≤ z) (h1 : z < 256) : (decS [z]).2.2 ≠ 0 := by
  intro h
  have hb : Byt [z] := fun y hy => by rw [List.mem_singleton] at hy; subst hy; exact ⟨h0, h1⟩
  have hd : decS [z] = ((decS [z]).1, (decS [z]).2.1, 0) := by rw [← h]
  obtain ⟨hr, hw, he⟩ := dec_inv hb hd
  have hl := (encS_len _ hw hr).2.2
  have := congrArg List.length he
  rw [List.length_append, List.length_singleton] at this
  omega
theorem open_odd {z : Int} (hz : ¬ (1 ≤ z ∧ z ≤ 8)) (h0 : 0 ≤ z) (h1 : z < 256) : ∀ (l : List Cel) (f : Nat), FineL l → openS f (encAll l ++ [z]) = none
  | _, 0, _ => rfl
  | [], f + 1, _ => by
    rw [encAll_nil, List.nil_append, openS, if_neg (by simp), if_neg (dec_odd hz h0 h1)]
  | x :: l, f + 1, h => by
    obtain ⟨hw, hr⟩ := h x (by simp)
    have hl := (encS_len x hw hr).2.2
    rw [encAll_cons, List.append_assoc, openS, if_neg (by rw [List.length_append]; omega), dec_all x hw hr]
    simp only [↓reduceIte]
    rw [open_odd hz h0 h1 l f (fun y hy => h y (by simp [hy]))]
    rfl
/-- A body that is cut is none, but where a cell ends. -/
theorem open_cut : ∀ (l : List Cel) (f k : Nat), FineL l → l.length < f → k ≤ (encAll l).length →
    (∀ j, j ≤ l.length → (encAll (l.take j)).length = k → openS f ((encAll l).take k) = some (l.take j)) ∧ ((∀ j, j ≤ l.length → (encAll (l.take j)).length ≠ k) → openS f ((encAll l).take k) = none)
  | [], f + 1, k, _, _, hk => by
    have hk0 : k = 0 := by simpa [encAll] using hk
    subst hk0
    exact ⟨fun j hj _ => by simp [openS, encAll], fun h => absurd rfl (h 0 (by simp))⟩
  | x :: l, f + 1, k, h, hf, hk => by
    obtain ⟨hw, hr⟩ := h x (by simp)
    have hl := (encS_len x hw hr).2.2
    by_cases h0 : k = 0
    · subst h0
      refine ⟨fun j hj hjk => ?_, fun hh => absurd rfl (hh 0 (by simp))⟩
      cases j with
      | zero => simp [openS]
      | succ j =>
        rw [List.take_succ_cons, encAll_cons, List.length_append] at hjk
        omega
    · by_cases hs : k < (encS x).length
      · have ht : (encAll (x :: l)).take k = (encS x).take k := by rw [encAll_cons, List.take_append_of_le_length (by omega)]
        have hn : openS (f + 1) ((encAll (x :: l)).take k) = none := by
          rw [ht, openS, if_neg (by rw [List.length_take]; omega), dec_cut x hw hr k hs, if_neg (by decide)]
        refine ⟨fun j hj hjk => ?_, fun _ => hn⟩
        cases j with
        | zero => exact absurd hjk.symm h0
        | succ j =>
          rw [List.take_succ_cons, encAll_cons, List.length_append] at hjk
          omega
      · have ht : (encAll (x :: l)).take k = encS x ++ (encAll l).take (k - (encS x).length) := by
          rw [encAll_cons, List.take_append, List.take_of_length_le (by omega)]
        have hkl : k - (encS x).length ≤ (encAll l).length := by
          rw [encAll_cons, List.length_append] at hk
          omega
        obtain ⟨ih1, ih2⟩ := open_cut l f (k - (encS x).length) (fun y hy => h y (by simp [hy])) (by simpa using hf) hkl
        have hst : openS (f + 1) ((encAll (x :: l)).take k) = (openS f ((encAll l).take (k - (encS x).length))).map (fun m => x :: m) := by
          rw [ht, openS, if_neg (by rw [List.length_append]; omega), dec_all x hw hr]
          rfl
        refine ⟨fun j hj hjk => ?_, fun hh => ?_⟩
        · cases j with
          | zero => exact absurd hjk.symm h0
          | succ j =>
            rw [List.take_succ_cons, encAll_cons, List.length_append] at hjk
            rw [hst, ih1 j (by simpa using hj) (by omega)]
            rfl
        · rw [hst, ih2 (fun j hj hjk => hh (j + 1) (by simpa using hj) (by rw [List.take_succ_cons, encAll_cons, List.length_append]; omega))]
          rfl
/-- The cells, body by body. -/
def nthG (G : List (List Cel)) (i : Nat) : List Cel := G.getD i []
def stepG (G : List (List Cel)) (x : Cel) : List (List Cel) :=
  if G.length = 0 ∨ 103 < (encAll (nthG G (G.length - 1))).length + (encS x).length then G ++ [[x]] else G.set (G.length - 1) (nthG G (G.length - 1) ++ [x])
def groups (l : List Cel) : List (List Cel) := l.foldl stepG []
theorem groups_snoc (l : List Cel) (x : Cel) : groups (l ++ [x]) = stepG (groups l) x := by simp [groups, List.foldl_append]
theorem nthG_map (G : List (List Cel)) (i : Nat) : nthR (G.map encAll) i = encAll (nthG G i) := by
  simp only [nthR, nthG, List.getD_eq_getElem?_getD, List.getElem?_map]
  cases G[i]? <;> rfl
theorem groups_bodies (l : List Cel) : (fillP (l.map encS)).1 = (groups l).map encAll := by
  refine snoc_ind (P := fun l => (fillP (l.map encS)).1 = (groups l).map encAll) rfl (fun l x ih => ?_) l
  rw [List.map_append, groups_snoc, show ([x].map encS) = [encS x] from rfl, fillP_snoc]
  show stepB _ _ = _
  rw [ih, stepB, stepG, List.length_map, nthG_map]
  split
  · simp [encAll]
  · rw [List.map_set, encAll_append]
    simp [encAll]
/-- What is known of the groups, and of the numbers told beside. -/
structure Grp (l : List Cel) (G : List (List Cel)) (I : List Int) : Prop where
  flat : G.flatten = l
  full : ∀ g ∈ G, g ≠ []
  fits : ∀ g ∈ G, (encAll g).length ≤ 103
  next : ∀ i, i + 1 < G.length → ∀ x, (nthG G (i + 1))[0]? = some x → 103 < (encAll (nthG G i)).length + (encS x).length
  len : I.length = l.length
  at_ : ∀ i, i < G.length → ∀ k, k < (nthG G i).length → nth I ((G.take i).flatten.length + k) = (i : Int)
theorem nthG_app_lt {a b : List (List Cel)} {i : Nat} (h : i < a.length) : nthG (a ++ b) i = nthG a i := by simp [nthG, List.getElem?_append_left h]
theorem nthG_app_last (a : List (List Cel)) (g : List Cel) : nthG (a ++ [g]) a.length = g := by simp [nthG]
theorem nth_app_ltI {a b : List Int} {i : Nat} (h : i < a.length) : nth (a ++ b) i = nth a i := by simp [nth, List.getElem?_append_left h]
theorem nth_app_lastI (a : List Int) (y : Int) : nth (a ++ [y]) a.length = y := by simp [nth]
theorem flatten_take_lt {G : List (List Cel)} {i k : Nat} (hi : i < G.length) (hk : k < (nthG G i).length) : (G.take i).flatten.length + k < G.flatten.length := by
  have h : G = G.take i ++ nthG G i :: G.drop (i + 1) := by
    have hg : nthG G i = G[i] := by simp [nthG, hi]
    rw [hg, ← List.drop_eq_getElem_cons hi, List.take_append_drop]
  have := congrArg (fun z => z.flatten.length) h
  simp only [List.flatten_append, List.flatten_cons, List.length_append] at this
  omega
theorem groups_all (l : List Cel) (hl : ∀ x ∈ l, (encS x).length ≤ 103) : Grp l (groups l) (fillP (l.map encS)).2 := by
  revert hl
  refine snoc_ind (P := fun l => (∀ x ∈ l, (encS x).length ≤ 103) → Grp l (groups l) (fillP (l.map encS)).2) (fun _ => ⟨rfl, fun g h => (by cases h), fun g h => (by cases h), fun i h => (by simp [groups] at h), rfl, fun i h => (by simp [groups] at h)⟩) (fun l x ih hl => ?_) l
  have hg := ih (fun y hy => hl y (by simp [hy]))
  have hx := hl x (by simp)
  have hbd := groups_bodies (l ++ [x])
  have hI : (fillP ((l ++ [x]).map encS)).2 = (fillP (l.map encS)).2 ++ [(((groups (l ++ [x])).length - 1 : Nat) : Int)] := by
    rw [List.map_append, show ([x].map encS) = [encS x] from rfl, fillP_snoc]
    show _ ++ [(((stepB (fillP (l.map encS)).1 (encS x)).length - 1 : Nat) : Int)] = _
    have h1 : (stepB (fillP (l.map encS)).1 (encS x)).length = (groups (l ++ [x])).length := by
      have := congrArg List.length hbd
      rw [List.map_append, show ([x].map encS) = [encS x] from rfl, fillP_snoc, List.length_map] at this
      exact this
    rw [h1]
  rw [hI]
  rw [groups_snoc]
  obtain ⟨G, hG⟩ : ∃ G, G = groups l := ⟨_, rfl⟩
  obtain ⟨I, hII⟩ : ∃ I, I = (fillP (l.map encS)).2 := ⟨_, rfl⟩
  rw [← hG, ← hII] at hg ⊢
  clear hbd hI ih hG hII
  obtain ⟨h1, h2, h3, h4, h5, h6⟩ := hg
  unfold stepG
  by_cases hc : G.length = 0 ∨ 103 < (encAll (nthG G (G.length - 1))).length + (encS x).length
  · rw [if_pos hc]
    have hIl : I.length = G.flatten.length := by rw [h5, h1]
    refine ⟨by rw [List.flatten_append, h1]; simp, fun g hm => ?_, fun g hm => ?_, fun i hi y hy => ?_, by simp [h5], fun i hi k hk => ?_⟩
    · rcases List.mem_append.1 hm with hm | hm
      · exact h2 g hm
      · rw [List.mem_singleton] at hm; subst hm; simp
    · rcases List.mem_append.1 hm with hm | hm
      · exact h3 g hm
      · rw [List.mem_singleton] at hm; subst hm; simpa [encAll] using hx
    · rw [List.length_append, List.length_singleton] at hi
      by_cases hil : i + 1 < G.length
      · rw [nthG_app_lt hil] at hy
        rw [nthG_app_lt (by omega)]
        exact h4 i hil y hy
      · have : i + 1 = G.length := by omega
        rw [this, nthG_app_last] at hy
        simp at hy
        subst hy
        rw [nthG_app_lt (by omega)]
        rcases hc with hc | hc
        · omega
        · rwa [show G.length - 1 = i by omega] at hc
    · rw [List.length_append, List.length_singleton] at hi
      by_cases hil : i < G.length
      · rw [nthG_app_lt hil] at hk
        rw [List.take_append_of_le_length (by omega), nth_app_ltI (by rw [hIl]; exact flatten_take_lt hil hk)]
        exact h6 i hil k hk
      · have : i = G.length := by omega
        subst this
        rw [nthG_app_last] at hk
        have hk0 : k = 0 := by simpa using hk
        subst hk0
        rw [List.take_append_of_le_length (by omega), List.take_length, Nat.add_zero, ← hIl, nth_app_lastI]
        simp
  · rw [if_neg hc]
    have hIl : I.length = G.flatten.length := by rw [h5, h1]
    obtain ⟨H, g, rfl⟩ : ∃ H g, G = H ++ [g] := by
      rcases List.eq_nil_or_concat G with h | ⟨H, g, h⟩
      · subst h; exact absurd (Or.inl rfl) hc
      · exact ⟨H, g, by rw [h, List.concat_eq_append]⟩
    have hn : (H ++ [g]).length - 1 = H.length := by simp
    have hlen : ((H ++ [g]).set ((H ++ [g]).length - 1) (nthG (H ++ [g]) ((H ++ [g]).length - 1) ++ [x])) = H ++ [g ++ [x]] := by
      rw [hn, nthG_app_last, List.set_append_right _ _ (Nat.le_refl _)]
      simp
    rw [hn] at hc
    rw [hlen]
    rw [nthG_app_last] at hc
    have hl2 : (H ++ [g ++ [x]]).length - 1 = H.length := by simp
    rw [hl2]
    refine ⟨by rw [← h1]; simp, fun q hm => ?_, fun q hm => ?_, fun i hi y hy => ?_, by simp [h5], fun i hi k hk => ?_⟩
    · rcases List.mem_append.1 hm with hm | hm
      · exact h2 q (List.mem_append_left _ hm)
      · rw [List.mem_singleton] at hm; subst hm; simp
    · rcases List.mem_append.1 hm with hm | hm
      · exact h3 q (List.mem_append_left _ hm)
      · rw [List.mem_singleton] at hm; subst hm
        rw [encAll_append, List.length_append, show encAll [x] = encS x by simp [encAll]]
        omega
    · rw [List.length_append, List.length_singleton] at hi
      by_cases hil : i + 1 < H.length
      · rw [nthG_app_lt hil] at hy
        rw [nthG_app_lt (by omega)]
        have := h4 i (by simp; omega) y (by rw [nthG_app_lt hil]; exact hy)
        rwa [nthG_app_lt (by omega)] at this
      · have he : i + 1 = H.length := by omega
        rw [he, nthG_app_last] at hy
        rw [nthG_app_lt (by omega)]
        have hg0 : g ≠ [] := h2 g (by simp)
        have hy' : g[0]? = some y := by
          rw [List.getElem?_append_left (List.length_pos_iff.2 hg0)] at hy
          exact hy
        have := h4 i (by simp; omega) y (by rw [he, nthG_app_last]; exact hy')
        rwa [nthG_app_lt (by omega)] at this
    · rw [List.length_append, List.length_singleton] at hi
      by_cases hil : i < H.length
      · rw [nthG_app_lt hil] at hk
        have hq : k < (nthG (H ++ [g]) i).length := by rw [nthG_app_lt hil]; exact hk
        have hb := flatten_take_lt (G := H ++ [g]) (by simp; omega) hq
        have h7 := h6 i (by simp; omega) k hq
        rw [List.take_append_of_le_length (by omega)] at hb h7
        rw [List.take_append_of_le_length (by omega), nth_app_ltI (by rw [hIl]; exact hb)]
        exact h7
      · have : i = H.length := by omega
        subst this
        rw [nthG_app_last] at hk
        rw [List.take_append_of_le_length (by omega), List.take_length]
        have hfl : (H ++ [g]).flatten.length = H.flatten.length + g.length := by simp
        by_cases hkg : k < g.length
        · have h7 := h6 H.length (by simp) k (by rw [nthG_app_last]; exact hkg)
          rw [List.take_append_of_le_length (by omega), List.take_length] at h7
          rw [nth_app_ltI (by rw [hIl, hfl]; omega)]
          exact h7
        · have : k = g.length := by simp at hk; omega
          subst this
          rw [← hfl, ← hIl, nth_app_lastI]
end Go.Proofs.Ytghcnipehgjegaa.Plain
