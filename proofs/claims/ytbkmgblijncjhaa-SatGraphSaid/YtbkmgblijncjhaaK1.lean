/- How many vectors of a gate's graph there are that are closed: plain data. How many closed vectors a gate's graph has: pieces, the bound. A solver: there are no more conflicts than sets of literals that are closed: plain data. -/
import Derived.WalkKit
import Derived.Test.YtbkmgblijncjhaaG2
set_option linter.unusedVariables false
set_option linter.unusedSimpArgs false
namespace Go.Proofs.Ytbkmgblijncjhaa

/-- Vectors that grow place by place, and a weight that their ways share out: there are no more than the weight. -/
theorem count_bound (N : Nat) (ok : List Int → Int → Bool) (W : List Int → Nat) (hW : ∀ q : List Int, q.length < N → (if ok q (-1) then W (q ++ [-1]) else 0) + (if ok q 0 then W (q ++ [0]) else 0) + (if ok q 1 then W (q ++ [1]) else 0) ≤ W q) (h1 : ∀ q : List Int, q.length = N → 1 ≤ W q) :
    ∀ (m : Nat) (q : List Int) (K : List (List Int)), q.length + m = N → K.Nodup → (∀ v ∈ K, v.length = N ∧ q <+: v ∧ (∀ a ∈ v, a = -1 ∨ a = 0 ∨ a = 1) ∧ ∀ i, i < N → ok (v.take i) (v.getD i 0) = true) → K.length ≤ W q
  | 0, q, K, hm, hK, hv => by
    have hq : q.length = N := by omega
    have hall : ∀ v ∈ K, v = q := fun v hv' => by
      obtain ⟨h2, h3, _⟩ := hv v hv'
      exact (h3.eq_of_length (by omega)).symm
    have := h1 q hq
    match K, hK, hall with
    | [], _, _ => exact Nat.zero_le _
    | [a], _, _ => exact this
    | a :: b :: K, hK, hall =>
      have h2 := hall a (List.mem_cons_self ..)
      have h3 := hall b (List.mem_cons_of_mem _ (List.mem_cons_self ..))
      have := (List.nodup_cons.1 hK).1
      rw [h2, h3] at this
      exact absurd (List.mem_cons_self ..) this
  | m + 1, q, K, hm, hK, hv => by
    have hql : q.length < N := by omega
    have hsplit : ∀ (p : Int) (L : List (List Int)), L.length = (L.filter fun v => v.getD q.length 0 == p).length + (L.filter fun v => !(v.getD q.length 0 == p)).length := fun p L => by
      induction L with
      | nil => rfl
      | cons a L ih =>
        cases e : (a.getD q.length 0 == p)
        · rw [List.filter_cons_of_neg (by show ¬ (a.getD q.length 0 == p) = true; rw [e]; simp), List.filter_cons_of_pos (by show (!(a.getD q.length 0 == p)) = true; rw [e]; rfl), List.length_cons, List.length_cons]
          omega
        · rw [List.filter_cons_of_pos (by show (a.getD q.length 0 == p) = true; exact e), List.filter_cons_of_neg (by show ¬ (!(a.getD q.length 0 == p)) = true; rw [e]; simp), List.length_cons, List.length_cons]
          omega
    have hone : ∀ (p : Int) (L : List (List Int)), L.Nodup → (∀ v ∈ L, v ∈ K) → (L.filter fun v => v.getD q.length 0 == p).length ≤ (if ok q p then W (q ++ [p]) else 0) := fun p L hL hLK => by
      have hsub : ∀ v ∈ L.filter (fun v => v.getD q.length 0 == p), v ∈ K ∧ v.getD q.length 0 = p := fun v h => by
        obtain ⟨h2, h3⟩ := List.mem_filter.1 h
        exact ⟨hLK v h2, by simpa using h3⟩
      have hpre : ∀ v, v ∈ K → v.getD q.length 0 = p → v.take q.length = q ∧ q ++ [p] <+: v := fun v hvK hp => by
        obtain ⟨h2, ⟨t, h3⟩, _⟩ := hv v hvK
        have e1 : v.take q.length = q := by rw [← h3, List.take_left]
        refine ⟨e1, ?_⟩
        cases t with
        | nil =>
          rw [List.append_nil] at h3
          rw [h3] at hql
          omega
        | cons x t =>
          have : x = p := by
            rw [← hp, ← h3, List.getD_eq_getElem?_getD, List.getElem?_append_right (Nat.le_refl _), Nat.sub_self]
            rfl
          subst this
          exact ⟨t, by rw [← h3]; simp⟩
      by_cases hok : ok q p = true
      · rw [if_pos hok]
        refine count_bound N ok W hW h1 m (q ++ [p]) _ (by rw [List.length_append, List.length_singleton]; omega) (hL.filter _) fun v h => ?_
        obtain ⟨h2, h3⟩ := hsub v h
        obtain ⟨h4, _, h5, h6⟩ := hv v h2
        exact ⟨h4, (hpre v h2 h3).2, h5, h6⟩
      · rw [if_neg hok]
        have : L.filter (fun v => v.getD q.length 0 == p) = [] := List.eq_nil_iff_forall_not_mem.2 fun v h => by
          obtain ⟨h2, h3⟩ := hsub v h
          obtain ⟨_, _, _, h6⟩ := hv v h2
          have h7 := h6 q.length hql
          rw [(hpre v h2 h3).1, h3] at h7
          exact hok h7
        rw [this]
        exact Nat.zero_le _
    have e1 := hsplit (-1) K
    have e2 := hsplit 0 (K.filter fun v => !(v.getD q.length 0 == -1))
    have e3 : ((K.filter fun v => !(v.getD q.length 0 == -1)).filter fun v => !(v.getD q.length 0 == 0)).length ≤ (K.filter fun v => v.getD q.length 0 == 1).length := by
      rw [List.filter_filter]
      have e4 : K.filter (fun v => !(v.getD q.length 0 == 0) && !(v.getD q.length 0 == -1)) = K.filter fun v => v.getD q.length 0 == 1 := List.filter_congr fun v hvK => by
        obtain ⟨h2, _, h5, _⟩ := hv v hvK
        have h6 : v.getD q.length 0 ∈ v := by
          rw [List.getD_eq_getElem?_getD, List.getElem?_eq_getElem (by omega)]
          exact List.getElem_mem _
        rcases h5 _ h6 with e | e | e <;> rw [e] <;> rfl
      rw [e4]
      exact Nat.le_refl _
    have f1 := hone (-1) K hK (fun v h => h)
    have f2 := hone 0 (K.filter fun v => !(v.getD q.length 0 == -1)) (hK.filter _) (fun v h => (List.mem_filter.1 h).1)
    have f3 := hone 1 K hK (fun v h => h)
    have := hW q hql
    omega

/-! ### The weight of a gate's graph -/
/-- A piece: a gate alone, a gate and one above it, two gates and one above both. -/
def star (q : List Int) (c : Nat) : Bool := q.getD c 0 == 0
def wtP (q : List Int) : List Nat → Nat
  | [r] => if q.length ≤ r then 2 else 1
  | [c, t] => if q.length ≤ c then 3 else if q.length ≤ t then (if star q c then 2 else 1) else 1
  | [c, d, t] => if q.length ≤ c then 5 else if q.length ≤ d then (if star q c then 3 else 2) else if q.length ≤ t then (if star q c && star q d then 2 else 1) else 1
  | _ => 1
theorem wtP1 (q : List Int) (r : Nat) : wtP q [r] = if q.length ≤ r then 2 else 1 := rfl
theorem wtP2 (q : List Int) (c t : Nat) : wtP q [c, t] = if q.length ≤ c then 3 else if q.length ≤ t then (if star q c then 2 else 1) else 1 := rfl
theorem wtP3 (q : List Int) (c d t : Nat) : wtP q [c, d, t] = if q.length ≤ c then 5 else if q.length ≤ d then (if star q c then 3 else 2) else if q.length ≤ t then (if star q c && star q d then 2 else 1) else 1 := rfl
def wtL (q : List Int) (ps : List (List Nat)) : Nat := (ps.map (wtP q)).foldr (· * ·) 1
theorem wtL_cons (q : List Int) (p : List Nat) (ps : List (List Nat)) : wtL q (p :: ps) = wtP q p * wtL q ps := rfl
theorem wtL_append (q : List Int) : ∀ (ps rs : List (List Nat)), wtL q (ps ++ rs) = wtL q ps * wtL q rs
  | [], rs => by simp [wtL]
  | p :: ps, rs => by rw [List.cons_append, wtL_cons, wtL_cons, wtL_append q ps rs, Nat.mul_assoc]
theorem star_snoc {q : List Int} {c : Nat} (h : c < q.length) (a : Int) : star (q ++ [a]) c = star q c := by
  unfold star
  rw [List.getD_eq_getElem?_getD, List.getElem?_append_left h, ← List.getD_eq_getElem?_getD]
theorem star_new (q : List Int) (a : Int) : star (q ++ [a]) q.length = (a == 0) := by
  unfold star
  rw [List.getD_eq_getElem?_getD, List.getElem?_append_right (Nat.le_refl _), Nat.sub_self]
  rfl
/-- A piece in its form: its gates rise. -/
def Formed : List Nat → Prop
  | [_] => True
  | [c, t] => c < t
  | [c, d, t] => c < d ∧ d < t
  | _ => False
theorem wtP_other {q : List Int} {p : List Nat} (hf : Formed p) (h : q.length ∉ p) (a : Int) : wtP (q ++ [a]) p = wtP q p := by
  have hl : (q ++ [a]).length = q.length + 1 := by simp
  match p, hf, h with
  | [r], _, h =>
    have : q.length ≠ r := fun e => h (by simp [e])
    rw [wtP1, wtP1]
    rw [hl]
    by_cases h1 : q.length ≤ r
    · rw [if_pos h1, if_pos (by omega)]
    · rw [if_neg h1, if_neg (by omega)]
  | [c, t], hf, h =>
    have hf : c < t := hf
    have h2 : q.length ≠ c := fun e => h (by simp [e])
    have h3 : q.length ≠ t := fun e => h (by simp [e])
    rw [wtP2, wtP2]
    rw [hl]
    by_cases h1 : q.length ≤ c
    · rw [if_pos h1, if_pos (by omega)]
    · rw [if_neg h1, if_neg (by omega)]
      by_cases h4 : q.length ≤ t
      · rw [if_pos h4, if_pos (by omega), star_snoc (by omega)]
      · rw [if_neg h4, if_neg (by omega)]
  | [c, d, t], hf, h =>
    obtain ⟨hf1, hf2⟩ : c < d ∧ d < t := hf
    have h2 : q.length ≠ c := fun e => h (by simp [e])
    have h3 : q.length ≠ t := fun e => h (by simp [e])
    have h5 : q.length ≠ d := fun e => h (by simp [e])
    rw [wtP3, wtP3]
    rw [hl]
    by_cases h1 : q.length ≤ c
    · rw [if_pos h1, if_pos (by omega)]
    · rw [if_neg h1, if_neg (by omega)]
      by_cases h4 : q.length ≤ d
      · rw [if_pos h4, if_pos (by omega), star_snoc (by omega)]
      · rw [if_neg h4, if_neg (by omega)]
        by_cases h6 : q.length ≤ t
        · rw [if_pos h6, if_pos (by omega), star_snoc (by omega), star_snoc (by omega)]
        · rw [if_neg h6, if_neg (by omega)]
theorem wtL_other {q : List Int} (a : Int) : ∀ {ps : List (List Nat)}, (∀ p ∈ ps, Formed p ∧ q.length ∉ p) → wtL (q ++ [a]) ps = wtL q ps
  | [], _ => rfl
  | p :: ps, h => by
    obtain ⟨h1, h2⟩ := h p (List.mem_cons_self ..)
    rw [wtL_cons, wtL_cons, wtP_other h1 h2, wtL_other a (fun p hp => h p (List.mem_cons_of_mem _ hp))]
/-- What a place may be: none or 0, or one value. -/
def Opts (f : Int → Bool) (two : Bool) : Prop := if two then f 1 = false else (f 1 = false ∧ f 0 = false) ∨ (f 1 = false ∧ f (-1) = false) ∨ (f 0 = false ∧ f (-1) = false)
theorem wtP_step {q : List Int} {p : List Nat} (hf : Formed p) (h : q.length ∈ p) {f : Int → Bool} {two : Bool} (ho : Opts f two) (hc : ∀ c t, p = [c, t] → q.length = t → two = true → star q c = true) (hd : ∀ c d t, p = [c, d, t] → q.length = t → two = true → star q c = true ∧ star q d = true) :
    (if f (-1) then wtP (q ++ [-1]) p else 0) + (if f 0 then wtP (q ++ [0]) p else 0) + (if f 1 then wtP (q ++ [1]) p else 0) ≤ wtP q p := by
  have hl : ∀ a : Int, (q ++ [a]).length = q.length + 1 := fun a => by simp
  have key : ∀ (A B : Nat) (T : Nat), (∀ a : Int, (a = 0 → wtP (q ++ [a]) p ≤ A) ∧ (a ≠ 0 → wtP (q ++ [a]) p ≤ B)) → (two = true → A + B ≤ T) → (A ≤ T ∧ B ≤ T) → (if f (-1) then wtP (q ++ [-1]) p else 0) + (if f 0 then wtP (q ++ [0]) p else 0) + (if f 1 then wtP (q ++ [1]) p else 0) ≤ T := by
    intro A B T h1 h2 h3
    have a1 := (h1 (-1)).2 (by omega)
    have a2 := (h1 0).1 rfl
    have a3 := (h1 1).2 (by omega)
    unfold Opts at ho
    cases two
    · simp only [Bool.false_eq_true, if_false] at ho
      rcases ho with ⟨e1, e2⟩ | ⟨e1, e2⟩ | ⟨e1, e2⟩ <;> simp only [e1, e2, Bool.false_eq_true, if_false] <;> split <;> omega
    · simp only [if_true] at ho
      have := h2 rfl
      simp only [ho, Bool.false_eq_true, if_false]
      split <;> split <;> omega
  match p, hf, h with
  | [r], _, h =>
    obtain rfl : q.length = r := by simpa using h
    have e : wtP q [q.length] = 2 := by rw [wtP1, if_pos (Nat.le_refl _)]
    rw [e]
    refine key 1 1 2 (fun a => ⟨fun _ => ?_, fun _ => ?_⟩) (fun _ => by omega) (by omega) <;> (rw [wtP1, hl, if_neg (by omega)]; exact Nat.le_refl _)
  | [c, t], hf, h =>
    have hf : c < t := hf
    simp only [List.mem_cons, List.not_mem_nil, or_false] at h
    rcases h with h | h
    · subst h
      have e : wtP q [q.length, t] = 3 := by rw [wtP2, if_pos (Nat.le_refl _)]
      rw [e]
      refine key 2 1 3 (fun a => ⟨fun ha => ?_, fun ha => ?_⟩) (fun _ => by omega) (by omega)
      · rw [wtP2]
        rw [hl, if_neg (by omega), if_pos (by omega)]
        split <;> omega
      · rw [wtP2]
        rw [hl, if_neg (by omega), if_pos (by omega), star_new, if_neg (by simpa using ha)]
        exact Nat.le_refl _
    · subst h
      have h1 : ∀ a : Int, wtP (q ++ [a]) [c, q.length] = 1 := fun a => by rw [wtP2, hl, if_neg (by omega), if_neg (by omega)]
      have e : wtP q [c, q.length] = if star q c then 2 else 1 := by rw [wtP2, if_neg (by omega), if_pos (Nat.le_refl _)]
      rw [e]
      refine key 1 1 _ (fun a => ⟨fun _ => Nat.le_of_eq (h1 a), fun _ => Nat.le_of_eq (h1 a)⟩) (fun ht => ?_) (by split <;> omega)
      rw [if_pos (hc c _ rfl rfl ht)]
      omega
  | [c, d, t], hf, h =>
    obtain ⟨hf1, hf2⟩ : c < d ∧ d < t := hf
    simp only [List.mem_cons, List.not_mem_nil, or_false] at h
    rcases h with h | h | h
    · subst h
      have e : wtP q [q.length, d, t] = 5 := by rw [wtP3, if_pos (Nat.le_refl _)]
      rw [e]
      refine key 3 2 5 (fun a => ⟨fun ha => ?_, fun ha => ?_⟩) (fun _ => by omega) (by omega)
      · rw [wtP3]
        rw [hl, if_neg (by omega), if_pos (by omega)]
        split <;> omega
      · rw [wtP3]
        rw [hl, if_neg (by omega), if_pos (by omega), star_new, if_neg (by simpa using ha)]
        exact Nat.le_refl _
    · subst h
      have e : wtP q [c, q.length, t] = if star q c then 3 else 2 := by rw [wtP3, if_neg (by omega), if_pos (Nat.le_refl _)]
      rw [e]
      have h1 : ∀ a : Int, wtP (q ++ [a]) [c, q.length, t] = if star q c && (a == 0) then 2 else 1 := fun a => by
        rw [wtP3]
        rw [hl, if_neg (by omega), if_neg (by omega), if_pos (by omega), star_snoc (by omega), star_new]
      cases hs : star q c
      · refine key 1 1 _ (fun a => ⟨fun _ => ?_, fun _ => ?_⟩) (fun _ => by simp) (by simp) <;> (rw [h1, hs]; simp)
      · refine key 2 1 _ (fun a => ⟨fun ha => ?_, fun ha => ?_⟩) (fun _ => by simp) (by simp)
        · rw [h1]
          split <;> omega
        · rw [h1, if_neg (by simpa using fun _ => ha)]
          exact Nat.le_refl _
    · subst h
      have h1 : ∀ a : Int, wtP (q ++ [a]) [c, d, q.length] = 1 := fun a => by rw [wtP3, hl, if_neg (by omega), if_neg (by omega), if_neg (by omega)]
      have e : wtP q [c, d, q.length] = if star q c && star q d then 2 else 1 := by rw [wtP3, if_neg (by omega), if_neg (by omega), if_pos (Nat.le_refl _)]
      rw [e]
      refine key 1 1 _ (fun a => ⟨fun _ => Nat.le_of_eq (h1 a), fun _ => Nat.le_of_eq (h1 a)⟩) (fun ht => ?_) (by split <;> omega)
      obtain ⟨e1, e2⟩ := hd c d _ rfl rfl ht
      rw [if_pos (by rw [e1, e2]; rfl)]
      omega
end Go.Proofs.Ytbkmgblijncjhaa

set_option linter.unusedVariables false
set_option linter.unusedSimpArgs false
namespace Go.Proofs.Ytbkmgblijncjhaa

/-- The pieces fit a graph: gates' children by a function, of the gates that count. -/
structure Fits (n N : Nat) (ch : Nat → Nat × Nat) (cone : Nat → Bool) (ps : List (List Nat)) : Prop where
  formed : ∀ p ∈ ps, Formed p
  nd : ps.flatten.Nodup
  mem : ∀ i, i ∈ ps.flatten ↔ n < i ∧ i < N ∧ cone i = true
  two : ∀ c t, [c, t] ∈ ps → c = (ch t).1 ∨ c = (ch t).2
  three : ∀ c d t, [c, d, t] ∈ ps → (c = (ch t).1 ∧ d = (ch t).2) ∨ (c = (ch t).2 ∧ d = (ch t).1)

def wtAll (n : Nat) (ps : List (List Nat)) (q : List Int) : Nat := 3 ^ (n + 1 - max q.length 1) * wtL q ps
theorem sum_mul (a b c : Bool) (x y z k : Nat) : (if a then k * x else 0) + (if b then k * y else 0) + (if c then k * z else 0) = k * ((if a then x else 0) + (if b then y else 0) + (if c then z else 0)) := by
  rw [Nat.mul_add, Nat.mul_add]
  cases a <;> cases b <;> cases c <;> simp
theorem opts_one {f : Int → Bool} (h : Opts f false) (k : Nat) : (if f (-1) then k else 0) + (if f 0 then k else 0) + (if f 1 then k else 0) ≤ k := by
  unfold Opts at h
  simp only [Bool.false_eq_true, if_false] at h
  rcases h with ⟨e1, e2⟩ | ⟨e1, e2⟩ | ⟨e1, e2⟩ <;> simp only [e1, e2, Bool.false_eq_true, if_false] <;> split <;> omega
theorem wtAll_step {n N : Nat} {ch : Nat → Nat × Nat} {cone : Nat → Bool} {ps : List (List Nat)} (h : Fits n N ch cone ps) {ok : List Int → Int → Bool} (hok : ∀ q : List Int, q.length < N → (q.length = 0 → Opts (ok q) false) ∧ (n < q.length → cone q.length = false → Opts (ok q) false) ∧ (n < q.length → cone q.length = true → Opts (ok q) (star q (ch q.length).1 && star q (ch q.length).2))) (q : List Int) (hq : q.length < N) :
    (if ok q (-1) then wtAll n ps (q ++ [-1]) else 0) + (if ok q 0 then wtAll n ps (q ++ [0]) else 0) + (if ok q 1 then wtAll n ps (q ++ [1]) else 0) ≤ wtAll n ps q := by
  obtain ⟨o1, o2, o3⟩ := hok q hq
  have hl : ∀ a : Int, (q ++ [a]).length = q.length + 1 := fun a => by simp
  unfold wtAll
  simp only [hl]
  rw [sum_mul]
  by_cases hi : n < q.length ∧ cone q.length = true
  · obtain ⟨hin, hic⟩ := hi
    have hop := o3 hin hic
    have hmem := (h.mem q.length).2 ⟨hin, hq, hic⟩
    obtain ⟨p, hp, hqp⟩ := List.mem_flatten.1 hmem
    obtain ⟨L1, L2, hL⟩ := List.append_of_mem hp
    have hnd := h.nd
    have hfm := h.formed
    rw [hL] at hnd hfm
    rw [List.flatten_append, List.flatten_cons, List.nodup_append] at hnd
    obtain ⟨_, hnd2, hnd3⟩ := hnd
    rw [List.nodup_append] at hnd2
    obtain ⟨_, _, hnd4⟩ := hnd2
    have h1 : ∀ r ∈ L1, Formed r ∧ q.length ∉ r := fun r hr => ⟨hfm r (List.mem_append_left _ hr), fun hm => hnd3 _ (List.mem_flatten.2 ⟨r, hr, hm⟩) _ (List.mem_append_left _ hqp) rfl⟩
    have h2 : ∀ r ∈ L2, Formed r ∧ q.length ∉ r := fun r hr => ⟨hfm r (List.mem_append_right _ (List.mem_cons_of_mem _ hr)), fun hm => hnd4 _ hqp _ (List.mem_flatten.2 ⟨r, hr, hm⟩) rfl⟩
    have hw : ∀ a : Int, wtL (q ++ [a]) ps = (wtL q L1 * wtL q L2) * wtP (q ++ [a]) p := fun a => by
      rw [hL, wtL_append, wtL_cons, wtL_other a h1, wtL_other a h2, Nat.mul_comm (wtP _ p), Nat.mul_assoc]
    have hw0 : wtL q ps = (wtL q L1 * wtL q L2) * wtP q p := by
      rw [hL, wtL_append, wtL_cons, Nat.mul_comm (wtP _ p), Nat.mul_assoc]
    rw [hw, hw, hw, hw0, sum_mul]
    have e : n + 1 - max (q.length + 1) 1 = n + 1 - max q.length 1 := by omega
    rw [e]
    refine Nat.mul_le_mul_left _ (Nat.mul_le_mul_left _ (wtP_step (hfm p (List.mem_append_right _ (List.mem_cons_self ..))) hqp hop (fun c t e1 e2 e3 => ?_) (fun c d t e1 e2 e3 => ?_)))
    · rw [Bool.and_eq_true] at e3
      rw [e1] at hp
      rw [e2] at e3
      rcases h.two c t hp with e4 | e4 <;> rw [e4]
      · exact e3.1
      · exact e3.2
    · rw [Bool.and_eq_true] at e3
      rw [e1] at hp
      rw [e2] at e3
      rcases h.three c d t hp with ⟨e4, e5⟩ | ⟨e4, e5⟩ <;> rw [e4, e5]
      · exact e3
      · exact ⟨e3.2, e3.1⟩
  · have hno : ∀ p ∈ ps, Formed p ∧ q.length ∉ p := fun p hp => ⟨h.formed p hp, fun hm => by
      have := (h.mem q.length).1 (List.mem_flatten.2 ⟨p, hp, hm⟩)
      exact hi ⟨this.1, this.2.2⟩⟩
    rw [wtL_other _ hno, wtL_other _ hno, wtL_other _ hno]
    by_cases hin : 0 < q.length ∧ q.length ≤ n
    · have e : n + 1 - max q.length 1 = (n + 1 - max (q.length + 1) 1) + 1 := by omega
      rw [e, Nat.pow_succ, Nat.mul_assoc]
      refine Nat.mul_le_mul_left _ ?_
      split <;> split <;> split <;> omega
    · have hone : Opts (ok q) false := by
        by_cases h0 : q.length = 0
        · exact o1 h0
        · have hgt : n < q.length := by omega
          refine o2 hgt ?_
          cases e : cone q.length with
          | false => rfl
          | true => exact absurd ⟨hgt, e⟩ hi
      have e : n + 1 - max (q.length + 1) 1 = n + 1 - max q.length 1 := by omega
      rw [e]
      exact Nat.mul_le_mul_left _ (opts_one hone _)
theorem wtL_pos (q : List Int) : ∀ ps : List (List Nat), 1 ≤ wtL q ps
  | [] => Nat.le_refl _
  | p :: ps => by
    rw [wtL_cons]
    have h1 := wtL_pos q ps
    have h2 : 1 ≤ wtP q p := by
      unfold wtP
      split
      · split <;> omega
      · split
        · omega
        · split
          · split <;> omega
          · omega
      · split
        · omega
        · split
          · split <;> omega
          · split
            · split <;> omega
            · omega
      · exact Nat.le_refl _
    exact Nat.mul_pos h2 h1

/-! ### The pieces of a graph -/
def addG (ps : List (List Nat)) (t a b : Nat) : List (List Nat) :=
  if [a] ∈ ps ∧ [b] ∈ ps ∧ a ≠ b then [min a b, max a b, t] :: (ps.erase [a]).erase [b]
  else if [a] ∈ ps then [a, t] :: ps.erase [a]
  else if [b] ∈ ps then [b, t] :: ps.erase [b]
  else [t] :: ps
def piecesG (n : Nat) (ch : Nat → Nat × Nat) (cone : Nat → Bool) : Nat → List (List Nat)
  | 0 => []
  | k + 1 => if cone (n + 1 + k) then addG (piecesG n ch cone k) (n + 1 + k) (ch (n + 1 + k)).1 (ch (n + 1 + k)).2 else piecesG n ch cone k
theorem flatten_erase {ps : List (List Nat)} {a : Nat} (h : [a] ∈ ps) (hnd : ps.flatten.Nodup) : (ps.erase [a]).flatten.Nodup ∧ (∀ i, i ∈ ps.flatten ↔ i = a ∨ i ∈ (ps.erase [a]).flatten) ∧ a ∉ (ps.erase [a]).flatten ∧ ps.flatten.length = (ps.erase [a]).flatten.length + 1 := by
  have hp : ps.Perm ([a] :: ps.erase [a]) := List.perm_cons_erase h
  have hf : ps.flatten.Perm (a :: (ps.erase [a]).flatten) := by
    have := hp.flatten
    simpa using this
  have h1 := hf.nodup_iff.1 hnd
  rw [List.nodup_cons] at h1
  refine ⟨h1.2, fun i => ?_, h1.1, ?_⟩
  · rw [hf.mem_iff, List.mem_cons]
  · rw [hf.length_eq, List.length_cons]
/-- What the pieces are, behind so many gates; those that are alone have no parent. -/
structure Pcs (n : Nat) (ch : Nat → Nat × Nat) (cone : Nat → Bool) (k : Nat) (ps : List (List Nat)) : Prop where
  fits : Fits n (n + 1 + k) ch cone ps
  alone : ∀ r, [r] ∈ ps → ∀ t, r < t → t < n + 1 + k → cone t = true → r ≠ (ch t).1 ∧ r ≠ (ch t).2
theorem pieces_ok {n : Nat} {ch : Nat → Nat × Nat} {cone : Nat → Bool} (hch : ∀ t, n < t → (ch t).1 < t ∧ (ch t).2 < t) : ∀ k, Pcs n ch cone k (piecesG n ch cone k)
  | 0 => ⟨⟨(fun p h => by cases h), by simp [piecesG], fun i => by simp [piecesG]; omega, (fun c t h => by cases h), (fun c d t h => by cases h)⟩, (fun r h => by cases h)⟩
  | k + 1 => by
    have ih := pieces_ok hch k (cone := cone)
    obtain ⟨⟨f1, f2, f3, f4, f5⟩, f6⟩ := ih
    have hT : n + 1 + (k + 1) = n + 1 + k + 1 := by omega
    rw [piecesG]
    generalize piecesG n ch cone k = ps at f1 f2 f3 f4 f5 f6
    obtain ⟨T, hTe⟩ : ∃ T, T = n + 1 + k := ⟨_, rfl⟩
    rw [← hTe] at f3 f6 ⊢
    have goal : ∀ ps' : List (List Nat), (Fits n (T + 1) ch cone ps' ∧ ∀ r, [r] ∈ ps' → ∀ t, r < t → t < T + 1 → cone t = true → r ≠ (ch t).1 ∧ r ≠ (ch t).2) → Pcs n ch cone (k + 1) ps' := fun ps' h => ⟨by rw [show n + 1 + (k + 1) = T + 1 by omega]; exact h.1, by rw [show n + 1 + (k + 1) = T + 1 by omega]; exact h.2⟩
    refine goal _ ?_
    have hTn : n < T := by omega
    obtain ⟨hc1, hc2⟩ := hch T hTn
    cases hcone : cone T with
    | false =>
      simp only [Bool.false_eq_true, if_false]
      refine ⟨⟨f1, f2, fun i => ?_, f4, f5⟩, fun r hr t h1 h2 h3 => ?_⟩
      · rw [f3]
        constructor
        · rintro ⟨a, b, c⟩
          exact ⟨a, by omega, c⟩
        · rintro ⟨a, b, c⟩
          refine ⟨a, ?_, c⟩
          have : i ≠ T := fun e => by rw [e, hcone] at c; cases c
          omega
      · have : t ≠ T := fun e => by rw [e, hcone] at h3; cases h3
        exact f6 r hr t h1 (by omega) h3
    | true =>
      have hTp : T ∉ ps.flatten := fun h => by have := ((f3 T).1 h).2.1; omega
      have hsing : ∀ r, [r] ∈ ps → r ∈ ps.flatten := fun r h => List.mem_flatten.2 ⟨[r], h, List.mem_singleton.2 rfl⟩
      have hmemT : ∀ i, (n < i ∧ i < T + 1 ∧ cone i = true) ↔ i = T ∨ i ∈ ps.flatten := fun i => by
        rw [f3]
        constructor
        · rintro ⟨a, b, c⟩
          by_cases e : i = T
          · exact .inl e
          · exact .inr ⟨a, by omega, c⟩
        · rintro (e | ⟨a, b, c⟩)
          · subst e
            exact ⟨hTn, by omega, hcone⟩
          · exact ⟨a, by omega, c⟩
      simp only [if_true]
      generalize hA : (ch T).1 = a at hc1
      generalize hB : (ch T).2 = b at hc2
      unfold addG
      by_cases c1 : [a] ∈ ps ∧ [b] ∈ ps ∧ a ≠ b
      · rw [if_pos c1]
        obtain ⟨ca, cb, hab⟩ := c1
        obtain ⟨e1, e2, e3, _⟩ := flatten_erase ca f2
        have cb' : [b] ∈ ps.erase [a] := (List.mem_erase_of_ne (fun e => hab (by simpa using e.symm))).2 cb
        obtain ⟨g1, g2, g3, _⟩ := flatten_erase cb' e1
        have hsub : ∀ p, p ∈ (ps.erase [a]).erase [b] → p ∈ ps := fun p hp => List.mem_of_mem_erase (List.mem_of_mem_erase hp)
        have hmm : ∀ i, i ∈ [min a b, max a b, T] ↔ i = T ∨ i = a ∨ i = b := fun i => by
          simp only [List.mem_cons, List.not_mem_nil, or_false]
          omega
        refine ⟨⟨fun p hp => ?_, ?_, fun i => ?_, fun c t hp => ?_, fun c d t hp => ?_⟩, fun r hr t h1 h2 h3 => ?_⟩
        · rcases List.mem_cons.1 hp with rfl | hp
          · exact ⟨by omega, by omega⟩
          · exact f1 p (hsub p hp)
        · rw [List.flatten_cons, List.nodup_append]
          refine ⟨?_, g1, fun x hx y hy e => ?_⟩
          · simp only [List.nodup_cons, List.mem_cons, List.not_mem_nil, or_false, not_false_eq_true, List.nodup_nil, and_true]
            omega
          · subst e
            rcases (hmm x).1 hx with rfl | rfl | rfl
            · exact hTp ((e2 x).2 (.inr ((g2 x).2 (.inr hy))))
            · exact e3 ((g2 x).2 (.inr hy))
            · exact g3 hy
        · rw [hmemT, List.flatten_cons, List.mem_append, hmm, e2, g2]
          constructor
          · rintro ((h | h | h) | h)
            · exact .inl h
            · exact .inr (.inl h)
            · exact .inr (.inr (.inl h))
            · exact .inr (.inr (.inr h))
          · rintro (h | h | h | h)
            · exact .inl (.inl h)
            · exact .inl (.inr (.inl h))
            · exact .inl (.inr (.inr h))
            · exact .inr h
        · rcases List.mem_cons.1 hp with h | hp
          · simp at h
          · exact f4 c t (hsub _ hp)
        · rcases List.mem_cons.1 hp with h | hp
          · simp only [List.cons.injEq, and_true] at h
            obtain ⟨h1, h2, rfl⟩ := h
            rw [hA, hB]
            omega
          · exact f5 c d t (hsub _ hp)
        · rcases List.mem_cons.1 hr with h | hr2
          · simp at h
          · rcases Nat.lt_or_eq_of_le (Nat.le_of_lt_succ h2) with h4 | h4
            · exact f6 r (hsub _ hr2) t h1 h4 h3
            · subst h4
              rw [hA, hB]
              refine ⟨fun e => ?_, fun e => ?_⟩
              · subst e
                exact e3 ((g2 r).2 (.inr (List.mem_flatten.2 ⟨[r], hr2, List.mem_singleton.2 rfl⟩)))
              · subst e
                exact g3 (List.mem_flatten.2 ⟨[r], hr2, List.mem_singleton.2 rfl⟩)
      · rw [if_neg c1]
        have one : ∀ x, x < T → [x] ∈ ps → (x = a ∨ x = b) → (∀ y, (y = a ∨ y = b) → y ≠ x → [y] ∉ ps) → Fits n (T + 1) ch cone ([x, T] :: ps.erase [x]) ∧ ∀ r, [r] ∈ [x, T] :: ps.erase [x] → ∀ t, r < t → t < T + 1 → cone t = true → r ≠ (ch t).1 ∧ r ≠ (ch t).2 := fun x hxT cx hxa hoth => by
          obtain ⟨e1, e2, e3, _⟩ := flatten_erase cx f2
          have hsub : ∀ p, p ∈ ps.erase [x] → p ∈ ps := fun p hp => List.mem_of_mem_erase hp
          refine ⟨⟨fun p hp => ?_, ?_, fun i => ?_, fun c t hp => ?_, fun c d t hp => ?_⟩, fun r hr t h1 h2 h3 => ?_⟩
          · rcases List.mem_cons.1 hp with rfl | hp
            · exact hxT
            · exact f1 p (hsub p hp)
          · rw [List.flatten_cons, List.nodup_append]
            refine ⟨?_, e1, fun z hz y hy e => ?_⟩
            · simp
              omega
            · subst e
              simp only [List.mem_cons, List.not_mem_nil, or_false] at hz
              rcases hz with rfl | rfl
              · exact e3 hy
              · exact hTp ((e2 z).2 (.inr hy))
          · rw [hmemT, List.flatten_cons, List.mem_append, e2]
            simp only [List.mem_cons, List.not_mem_nil, or_false]
            constructor
            · rintro ((h | h) | h)
              · exact .inr (.inl h)
              · exact .inl h
              · exact .inr (.inr h)
            · rintro (h | h | h)
              · exact .inl (.inr h)
              · exact .inl (.inl h)
              · exact .inr h
          · rcases List.mem_cons.1 hp with h | hp
            · simp only [List.cons.injEq, and_true] at h
              obtain ⟨rfl, rfl⟩ := h
              rw [hA, hB]
              exact hxa
            · exact f4 c t (hsub _ hp)
          · rcases List.mem_cons.1 hp with h | hp
            · simp at h
            · exact f5 c d t (hsub _ hp)
          · rcases List.mem_cons.1 hr with h | hr2
            · simp at h
            · rcases Nat.lt_or_eq_of_le (Nat.le_of_lt_succ h2) with h4 | h4
              · exact f6 r (hsub _ hr2) t h1 h4 h3
              · subst h4
                rw [hA, hB]
                have hrx : r ≠ x := fun e => by
                  subst e
                  exact e3 (List.mem_flatten.2 ⟨[r], hr2, List.mem_singleton.2 rfl⟩)
                exact ⟨fun e => hoth r (.inl e) hrx (hsub _ hr2), fun e => hoth r (.inr e) hrx (hsub _ hr2)⟩
        by_cases c2 : [a] ∈ ps
        · rw [if_pos c2]
          exact one a (by omega) c2 (.inl rfl) (fun y hy hne hy' => by
            rcases hy with rfl | rfl
            · exact hne rfl
            · exact c1 ⟨c2, hy', fun e => hne e.symm⟩)
        · rw [if_neg c2]
          by_cases c3 : [b] ∈ ps
          · rw [if_pos c3]
            exact one b (by omega) c3 (.inr rfl) (fun y hy hne hy' => by
              rcases hy with rfl | rfl
              · exact c2 hy'
              · exact hne rfl)
          · rw [if_neg c3]
            refine ⟨⟨fun p hp => ?_, ?_, fun i => ?_, fun c t hp => ?_, fun c d t hp => ?_⟩, fun r hr t h1 h2 h3 => ?_⟩
            · rcases List.mem_cons.1 hp with rfl | hp
              · trivial
              · exact f1 p hp
            · rw [List.flatten_cons]
              exact List.nodup_cons.2 ⟨hTp, f2⟩
            · rw [hmemT, List.flatten_cons, List.mem_append, List.mem_singleton]
            · rcases List.mem_cons.1 hp with h | hp
              · simp at h
              · exact f4 c t hp
            · rcases List.mem_cons.1 hp with h | hp
              · simp at h
              · exact f5 c d t hp
            · rcases List.mem_cons.1 hr with h | hr2
              · have : r = T := by simpa using h
                omega
              · rcases Nat.lt_or_eq_of_le (Nat.le_of_lt_succ h2) with h4 | h4
                · exact f6 r hr2 t h1 h4 h3
                · subst h4
                  rw [hA, hB]
                  exact ⟨fun e => c2 (by rw [← e]; exact hr2), fun e => c3 (by rw [← e]; exact hr2)⟩
end Go.Proofs.Ytbkmgblijncjhaa

set_option linter.unusedVariables false
set_option linter.unusedSimpArgs false
namespace Go.Proofs.Ytbkmgblijncjhaa

section
variable {n : Nat} {F : List (List Int)} {s : SS} {out : List Int}
/-- Where a guess stands, what lies ahead was closed. -/
def WL (s : SS) : Prop := ∀ l ∈ s.lims, ∀ c ∈ s.cls, W2c (s.lits.take l) l c
theorem Inv.wl_put (h : Inv n F s) (hw : WL s) (x r : Int) : WL (s.put x r) := fun l hl c hc => by
  have := h.llt l hl
  rw [put_lits, List.take_append_of_le_length (by rw [h.lits_len]; omega)]
  exact hw l hl c hc
theorem Inv.w2_guess (h : Inv n F s) (hw : W2 s) (x : Int) : W2 (s.guess x) := fun c hc => by
  rw [guess_lits]
  exact (hw c hc).snoc (by rw [h.lits_len]; exact h.dn) x
theorem Inv.wl_guess (h : Inv n F s) (hw : WL s) (hw2 : W2 s) (hd : s.done = s.tr.length) (x : Int) : WL (s.guess x) := fun l hl c hc => by
  rw [guess_lits]
  rcases List.mem_append.1 hl with h1 | h1
  · have := h.llt l h1
    rw [List.take_append_of_le_length (by rw [h.lits_len]; omega)]
    exact hw l h1 c hc
  · obtain rfl := List.mem_singleton.1 h1
    rw [List.take_append_of_le_length (by rw [h.lits_len]; omega)]
    have h2 := hw2 c hc
    rw [hd] at h2
    rwa [show s.lits.take s.tr.length = s.lits by rw [← h.lits_len, List.take_length]]
theorem Inv.w2_learn (h : Inv n F s) (hw : WL s) {x : Int} {lv p : Nat} (hl : Learnt n F s x out lv p) : W2 (s.learn x out lv p) := fun c hc => by
  have hpm := List.mem_of_getElem? hl.lim
  have hpl := h.llt p hpm
  have e : (s.learn x out lv p).lits = s.lits.take p ++ [-x] := by
    show (((s.back lv p).add (-x :: out)).put (-x) _).lits = _
    rw [put_lits]
    show (s.back lv p).lits ++ [-x] = _
    rw [back_lits]
  rw [e]
  rcases List.mem_append.1 hc with h2 | h2
  · exact (hw p hpm c h2).snoc (by rw [List.length_take, h.lits_len]; show p ≤ _; omega) _
  · obtain rfl : c = -x :: out := by simpa using h2
    exact .inl ⟨-x, List.mem_cons_self .., by simp⟩
theorem Inv.wl_learn (h : Inv n F s) (hw : WL s) {x : Int} {lv p : Nat} (hl : Learnt n F s x out lv p) : WL (s.learn x out lv p) := fun l hlm c hc => by
  have e : (s.learn x out lv p).lits = s.lits.take p ++ [-x] := by
    show (((s.back lv p).add (-x :: out)).put (-x) _).lits = _
    rw [put_lits]
    show (s.back lv p).lits ++ [-x] = _
    rw [back_lits]
  have hpm := List.mem_of_getElem? hl.lim
  have hpl := h.llt p hpm
  have hlm' : l ∈ s.lims.take lv := hlm
  have hlp : l < p := by
    obtain ⟨j, hj, hlj⟩ := mem_take_iff.1 hlm'
    have h3 := List.getElem?_eq_some_iff.1 hlj
    have h4 := List.getElem?_eq_some_iff.1 hl.lim
    have := List.pairwise_iff_getElem.1 h.lpw j lv h3.1 h4.1 hj
    rwa [h3.2, h4.2] at this
  rw [e, List.take_append_of_le_length (by rw [List.length_take, h.lits_len]; omega), List.take_take, Nat.min_eq_left (by omega)]
  rcases List.mem_append.1 hc with h2 | h2
  · exact hw l (List.mem_of_mem_take hlm') c h2
  · obtain rfl : c = -x :: out := by simpa using h2
    have hlv : lv ≠ 0 := fun e => by
      rw [e] at hlm'
      simp at hlm'
    rcases hl.top with h3 | ⟨y, hy, h3⟩
    · exact absurd h3 hlv
    · have hnd := hl.nd
      rw [List.map_cons, List.nodup_cons] at hnd
      refine .inr ⟨-x, List.mem_cons_self .., y, List.mem_cons_of_mem _ hy, fun e => hnd.1 (by rw [e]; exact List.mem_map.2 ⟨y, hy, rfl⟩), ?_, ?_⟩
      · rw [Int.neg_neg, List.take_take, Nat.min_self]
        intro h4
        refine hl.u1 ?_
        obtain ⟨j, hj, hjx⟩ := mem_take_iff.1 h4
        exact mem_take_iff.2 ⟨j, by omega, hjx⟩
      · rw [List.take_take, Nat.min_self]
        exact h3 l hlm'

/-! ### Sets of literals as vectors -/
def valV (v : List Int) (y : Int) : Int := if y < 0 then -(v.getD (y.natAbs - 1) 0) else v.getD (y.natAbs - 1) 0
/-- Does a variable stand in some clauses? -/
def occ (C0 : List (List Int)) (v : Nat) : Bool := C0.any fun c => c.any fun y => y.natAbs == v
def vecL (C0 : List (List Int)) (n : Nat) (L : List Int) : List Int := (List.range n).map fun i => if occ C0 (i + 1) then valL L ((i + 1 : Nat) : Int) else 0
theorem occ_of {C0 : List (List Int)} {c : List Int} {y : Int} (hc : c ∈ C0) (hy : y ∈ c) : occ C0 y.natAbs = true := by
  unfold occ
  rw [List.any_eq_true]
  exact ⟨c, hc, List.any_eq_true.2 ⟨y, hy, by simp⟩⟩
def ClosedV (v : List Int) (c : List Int) : Prop := (∃ y ∈ c, valV v y = 1) ∨ ∃ y ∈ c, ∃ z ∈ c, y ≠ z ∧ valV v y ≠ -1 ∧ valV v z ≠ -1
theorem vecL_val {C0 : List (List Int)} {L : List Int} (hb : ∀ x, ¬ (x ∈ L ∧ -x ∈ L)) {y : Int} (h0 : y ≠ 0) (hn : y.natAbs ≤ n) (ho : occ C0 y.natAbs = true) : valV (vecL C0 n L) y = valL L y := by
  have hg : (vecL C0 n L).getD (y.natAbs - 1) 0 = valL L (y.natAbs : Int) := by
    unfold vecL
    rw [List.getD_eq_getElem?_getD, List.getElem?_map, List.getElem?_range (by omega)]
    show (if occ C0 (y.natAbs - 1 + 1) then valL L ((y.natAbs - 1 + 1 : Nat) : Int) else 0) = _
    rw [show y.natAbs - 1 + 1 = y.natAbs by omega, ho]
    rfl
  unfold valV
  rw [hg]
  split
  · rw [show (y.natAbs : Int) = -y by omega]
    unfold valL
    rw [Int.neg_neg]
    by_cases h1 : y ∈ L
    · have h2 : -y ∉ L := fun h => hb y ⟨h1, h⟩
      simp [h1, h2]
    · by_cases h2 : -y ∈ L <;> simp [h1, h2]
  · rw [show (y.natAbs : Int) = y by omega]
theorem valL_one {L : List Int} {y : Int} : valL L y = 1 ↔ y ∈ L := by
  unfold valL
  by_cases h1 : y ∈ L
  · simp [h1]
  · by_cases h2 : -y ∈ L <;> simp [h1, h2]
theorem valL_mone {L : List Int} (hb : ∀ x, ¬ (x ∈ L ∧ -x ∈ L)) {y : Int} : valL L y = -1 ↔ -y ∈ L := by
  unfold valL
  by_cases h1 : y ∈ L
  · have h2 : -y ∉ L := fun h => hb y ⟨h1, h⟩
    simp [h1, h2]
  · by_cases h2 : -y ∈ L <;> simp [h1, h2]
theorem closedV_iff {C0 : List (List Int)} {L : List Int} (hb : ∀ x, ¬ (x ∈ L ∧ -x ∈ L)) {c : List Int} (hc : ∀ y ∈ c, y ≠ 0 ∧ y.natAbs ≤ n) (ho : ∀ y ∈ c, occ C0 y.natAbs = true) : ClosedV (vecL C0 n L) c ↔ (∃ y ∈ c, y ∈ L) ∨ ∃ y ∈ c, ∃ z ∈ c, y ≠ z ∧ -y ∉ L ∧ -z ∉ L := by
  have hv : ∀ y ∈ c, valV (vecL C0 n L) y = valL L y := fun y hy => vecL_val hb (hc y hy).1 (hc y hy).2 (ho y hy)
  unfold ClosedV
  refine or_congr ⟨?_, ?_⟩ ⟨?_, ?_⟩
  · rintro ⟨y, hy, h⟩
    exact ⟨y, hy, valL_one.1 (by rw [← hv y hy]; exact h)⟩
  · rintro ⟨y, hy, h⟩
    exact ⟨y, hy, by rw [hv y hy]; exact valL_one.2 h⟩
  · rintro ⟨y, hy, z, hz, hne, h1, h2⟩
    exact ⟨y, hy, z, hz, hne, fun h => h1 (by rw [hv y hy]; exact (valL_mone hb).2 h), fun h => h2 (by rw [hv z hz]; exact (valL_mone hb).2 h)⟩
  · rintro ⟨y, hy, z, hz, hne, h1, h2⟩
    exact ⟨y, hy, z, hz, hne, fun h => h1 ((valL_mone hb).1 (by rw [← hv y hy]; exact h)), fun h => h2 ((valL_mone hb).1 (by rw [← hv z hz]; exact h))⟩

/-- How much lies on the trail without guesses. -/
def lvl0 (s : SS) : Nat := s.lims.headD s.tr.length
/-- Vectors that a conflict has barred: closed under the first clauses, and not under what is known now; the assumed literals are so in them. -/
structure Kd (n : Nat) (A : List Int) (C0 : List (List Int)) (s : SS) (K : List (List Int)) : Prop where
  nd : K.Nodup
  cl : ∀ v ∈ K, ∀ c ∈ C0, ClosedV v c
  dd : ∀ v ∈ K, ∃ c ∈ s.cls, ¬ ClosedV v c
  vl : ∀ v ∈ K, v.length = n ∧ (∀ a ∈ v, a = -1 ∨ a = 0 ∨ a = 1) ∧ ∀ i, i < n → occ C0 (i + 1) = false → v.getD i 0 = 0
  as : A.length ≤ 1 → ∀ v ∈ K, ∀ a ∈ A, occ C0 a.natAbs = true → valV v a = 1
theorem Kd.mono {A : List Int} {C0 : List (List Int)} {s s' : SS} {K : List (List Int)} (h : Kd n A C0 s K) (hs : s.cls <+: s'.cls) : Kd n A C0 s' K :=
  ⟨h.nd, h.cl, fun v hv => by
    obtain ⟨c, h1, h2⟩ := h.dd v hv
    exact ⟨c, hs.subset h1, h2⟩, h.vl, h.as⟩
/-- What is known of how many conflicts there were. -/
def Many (n : Nat) (A : List Int) (C0 : List (List Int)) (s : SS) : Prop :=
  C0 <+: s.cls ∧ (∀ c ∈ s.cls, ∀ y ∈ c, occ C0 y.natAbs = true) ∧ ∃ (K : List (List Int)) (z : Nat), Kd n A C0 s K ∧ z ≤ lvl0 s ∧ s.cls.length ≤ C0.length + K.length + z
theorem Many.start (n : Nat) (A : List Int) (s : SS) : Many n A s.cls s :=
  ⟨List.prefix_rfl, fun c hc y hy => occ_of hc hy, [], 0, ⟨List.nodup_nil, (fun v h => by cases h), (fun v h => by cases h), (fun v h => by cases h), (fun _ v h => by cases h)⟩, Nat.zero_le _, by simp⟩
theorem Many.same {A : List Int} {C0 : List (List Int)} {s' : SS} (h : Many n A C0 s) (hc : s'.cls = s.cls) (hl : lvl0 s ≤ lvl0 s') : Many n A C0 s' := by
  obtain ⟨h0, ho, K, z, h1, h2, h3⟩ := h
  exact ⟨by rw [hc]; exact h0, by rw [hc]; exact ho, K, z, h1.mono (by rw [hc]; exact List.prefix_rfl), by omega, by rw [hc]; exact h3⟩
theorem lvl0_put (s : SS) (x r : Int) : lvl0 s ≤ lvl0 (s.put x r) := by
  unfold lvl0 SS.put
  cases s.lims <;> simp
theorem lvl0_guess (s : SS) (x : Int) : lvl0 s ≤ lvl0 (s.guess x) := by
  unfold lvl0 SS.guess
  cases s.lims <;> simp
theorem vecL_shape (C0 : List (List Int)) (n : Nat) (L : List Int) : (vecL C0 n L).length = n ∧ (∀ a ∈ vecL C0 n L, a = -1 ∨ a = 0 ∨ a = 1) ∧ ∀ i, i < n → occ C0 (i + 1) = false → (vecL C0 n L).getD i 0 = 0 := by
  refine ⟨by simp [vecL], fun a ha => ?_, fun i hi ho => ?_⟩
  rotate_left
  · unfold vecL
    rw [List.getD_eq_getElem?_getD, List.getElem?_map, List.getElem?_range hi]
    show (if occ C0 (i + 1) then _ else 0) = _
    rw [ho]
    rfl
  obtain ⟨i, _, rfl⟩ := List.mem_map.1 ha
  split
  rotate_left
  · exact .inr (.inl rfl)
  unfold valL
  split
  · exact .inr (.inr rfl)
  · split
    · exact .inl rfl
    · exact .inr (.inl rfl)
theorem Inv.many_learn (h : Inv n F s) (hw : WL s) {A : List Int} (hAr : ∀ a ∈ A, a ≠ 0 ∧ a.natAbs ≤ n) (hG : GInv A s) {C0 : List (List Int)} (hm : Many n A C0 s) {x : Int} {lv p : Nat} (hl : Learnt n F s x out lv p) : Many n A C0 (s.learn x out lv p) := by
  obtain ⟨h0, hoc, K, z, hK, hz, hc⟩ := hm
  have hpm := List.mem_of_getElem? hl.lim
  have hpre : s.cls <+: (s.learn x out lv p).cls := List.prefix_append _ _
  have hlen : (s.learn x out lv p).cls.length = s.cls.length + 1 := by
    show (s.cls ++ [_]).length = _
    simp
  have hlv := (List.getElem?_eq_some_iff.1 hl.lim).1
  have hoc2 : ∀ y ∈ -x :: out, occ C0 y.natAbs = true := fun y hy => by
    obtain ⟨c, h1, z, h2, h3⟩ := hl.oc y hy
    rw [← h3]
    exact hoc c h1 z h2
  have hoc3 : ∀ c ∈ (s.learn x out lv p).cls, ∀ y ∈ c, occ C0 y.natAbs = true := fun c hc y hy => by
    rcases List.mem_append.1 hc with h1 | h1
    · exact hoc c h1 y hy
    · obtain rfl : c = -x :: out := by simpa using h1
      exact hoc2 y hy
  by_cases e : lv = 0
  · refine ⟨h0.trans hpre, hoc3, K, z + 1, hK.mono hpre, ?_, by omega⟩
    have h1 : lvl0 s = p := by
      unfold lvl0
      have := hl.lim
      rw [e] at this
      cases hll : s.lims with
      | nil => rw [hll] at this; cases this
      | cons a r =>
        rw [hll] at this
        cases this
        rfl
    have h2 : lvl0 (s.learn x out lv p) = p + 1 := by
      unfold lvl0
      have h3 : (s.learn x out lv p).lims = [] := by
        show s.lims.take lv = []
        rw [e]
        rfl
      rw [h3]
      show (s.tr.take p ++ [_]).length = _
      have := h.llt p hpm
      simp
      omega
    omega
  · have hb : ∀ x, ¬ (x ∈ s.lits.take p ∧ -x ∈ s.lits.take p) := fun x hx => h.not_both (List.mem_of_mem_take hx.1) (List.mem_of_mem_take hx.2)
    have hcl : ∀ c ∈ s.cls, ClosedV (vecL C0 n (s.lits.take p)) c := fun c hc => by
      rw [closedV_iff hb (h.rng c hc) (hoc c hc)]
      rcases hw p hpm c hc with h1 | ⟨y, h1, z, h2, h3, h4, h5⟩
      · exact .inl h1
      · rw [List.take_take, Nat.min_self] at h4 h5
        exact .inr ⟨y, h1, z, h2, h3, h4, h5⟩
    have hnc : ¬ ClosedV (vecL C0 n (s.lits.take p)) (-x :: out) := by
      rw [closedV_iff hb hl.rng hoc2]
      rintro (⟨y, hy, h1⟩ | ⟨y, hy, z, hz, hne, h1, h2⟩)
      · rcases List.mem_cons.1 hy with rfl | hy
        · exact hl.u2 h1
        · exact hb y ⟨h1, hl.low y hy⟩
      · rcases List.mem_cons.1 hy with rfl | hy
        · rcases List.mem_cons.1 hz with rfl | hz
          · exact hne rfl
          · exact h2 (hl.low z hz)
        · exact h1 (hl.low y hy)
    refine ⟨h0.trans hpre, hoc3, vecL C0 n (s.lits.take p) :: K, z, ⟨?_, ?_, ?_, ?_, ?_⟩, ?_, by rw [List.length_cons]; omega⟩
    · refine List.nodup_cons.2 ⟨fun hk => ?_, hK.nd⟩
      obtain ⟨c, h1, h2⟩ := hK.dd _ hk
      exact h2 (hcl c h1)
    · intro v hv c hc
      rcases List.mem_cons.1 hv with rfl | hv
      · exact hcl c (h0.subset hc)
      · exact hK.cl v hv c hc
    · intro v hv
      rcases List.mem_cons.1 hv with rfl | hv
      · refine ⟨-x :: out, ?_, hnc⟩
        show _ ∈ s.cls ++ [_]
        simp
      · obtain ⟨c, h1, h2⟩ := hK.dd v hv
        exact ⟨c, hpre.subset h1, h2⟩
    · intro v hv
      rcases List.mem_cons.1 hv with rfl | hv
      · exact vecL_shape _ _ _
      · exact hK.vl v hv
    · intro hA v hv a ha hoa
      rcases List.mem_cons.1 hv with rfl | hv
      · rw [vecL_val hb (hAr a ha).1 (hAr a ha).2 hoa, valL_one]
        have hl0 : 0 < s.lims.length := by omega
        obtain ⟨l0, hl0'⟩ : ∃ l0, s.lims[0]? = some l0 := ⟨_, List.getElem?_eq_getElem hl0⟩
        have hlp : l0 < p := by
          have h3 := List.getElem?_eq_some_iff.1 hl0'
          have h4 := List.getElem?_eq_some_iff.1 hl.lim
          have := List.pairwise_iff_getElem.1 h.lpw 0 lv h3.1 h4.1 (by omega)
          rwa [h3.2, h4.2] at this
        have hll := h.llt l0 (List.mem_of_getElem? hl0')
        obtain ⟨y, hy⟩ : ∃ y, s.lits[l0]? = some y := ⟨_, List.getElem?_eq_getElem (by rw [h.lits_len]; exact hll)⟩
        obtain ⟨r, hr⟩ := lits_get.1 hy
        rcases hG l0 y r (List.mem_of_getElem? hl0') hr with h5 | h5
        · have : y = a := by
            match A, hA, h5, ha with
            | [b], _, h5, ha =>
              rw [List.mem_singleton] at h5 ha
              rw [h5, ha]
          subst this
          exact mem_take_iff.2 ⟨l0, hlp, hy⟩
        · obtain ⟨j, hj, hja⟩ := mem_take_iff.1 (h5 a ha)
          exact mem_take_iff.2 ⟨j, by omega, hja⟩
      · exact hK.as hA v hv a ha hoa
    · have h1 : lvl0 (s.learn x out lv p) = lvl0 s := by
        unfold lvl0
        show (s.lims.take lv).headD _ = _
        cases hll : s.lims with
        | nil => rw [hll] at hlv; simp at hlv
        | cons a r =>
          cases lv with
          | zero => exact absurd rfl e
          | succ m => rfl
      omega
theorem Inv.lvl0_le (h : Inv n F s) : lvl0 s ≤ n := by
  unfold lvl0
  cases hll : s.lims with
  | nil => exact h.len
  | cons a r =>
    have := h.llt a (by rw [hll]; exact List.mem_cons_self ..)
    have := h.len
    show a ≤ n
    omega
end
end Go.Proofs.Ytbkmgblijncjhaa
