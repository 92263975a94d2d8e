/-
  Plain mathematics: digits to the base 256, the least first. No Go in sight.
-/
namespace Go.Own

/-- The number that digits make, the least first. -/
def val : List Nat → Nat
  | [] => 0
  | d :: ds => d + 256 * val ds

/-- How many of the first k digits are left when the zeros at the top are cut off. -/
def tl (ds : List Nat) : Nat → Nat
  | 0 => 0
  | k + 1 => if ds.getD k 0 = 0 then tl ds k else k + 1

def Small (ds : List Nat) : Prop := ∀ x ∈ ds, x < 256
/-- No zero digit at the top. -/
def Tight (ds : List Nat) : Prop := ∀ x, ds.getLast? = some x → x ≠ 0

theorem val_append (l m : List Nat) : val (l ++ m) = val l + 256 ^ l.length * val m := by
  induction l with
  | nil => simp [val]
  | cons d l ih => simp only [List.cons_append, val, ih, List.length_cons, Nat.pow_succ]; rw [Nat.mul_add, Nat.mul_comm (256 ^ l.length) 256, Nat.mul_assoc]; omega
theorem val_snoc (l : List Nat) (d : Nat) : val (l ++ [d]) = val l + 256 ^ l.length * d := by simp [val_append, val]
theorem val_take_succ {l : List Nat} {k : Nat} (h : k < l.length) : val (l.take (k + 1)) = val (l.take k) + 256 ^ k * l[k] := by
  rw [List.take_succ_eq_append_getElem h, val_snoc, List.length_take, Nat.min_eq_left (by omega)]
theorem Small.take {ds : List Nat} (h : Small ds) (k : Nat) : Small (ds.take k) := fun x hx => h x (List.mem_of_mem_take hx)
theorem Small.get {ds : List Nat} (h : Small ds) {k : Nat} (hk : k < ds.length) : ds[k] < 256 := h _ (List.getElem_mem hk)
theorem Small.append {a b : List Nat} (h : Small a) (h' : Small b) : Small (a ++ b) := fun x hx => by rcases List.mem_append.1 hx with h1 | h1; exact h x h1; exact h' x h1
theorem Small.set {ds : List Nat} (h : Small ds) {i x : Nat} (hx : x < 256) : Small (ds.set i x) := fun y hy => by
  rcases List.mem_or_eq_of_mem_set hy with h1 | h1
  · exact h y h1
  · omega
theorem small_replicate (n : Nat) : Small (List.replicate n 0) := fun x hx => by simp at hx; omega
theorem val_replicate (n : Nat) : val (List.replicate n 0) = 0 := by
  induction n with
  | zero => rfl
  | succ n ih => simp [List.replicate_succ, val, ih]
theorem val_lt {ds : List Nat} (h : Small ds) : val ds < 256 ^ ds.length := by
  induction ds with
  | nil => simp [val]
  | cons d ds ih =>
    have h1 := h d (by simp)
    have h2 := ih (fun x hx => h x (by simp [hx]))
    simp only [val, List.length_cons, Nat.pow_succ]
    omega

theorem getD_get {ds : List Nat} {k : Nat} (h : k < ds.length) : ds.getD k 0 = ds[k] := by simp [List.getD_eq_getElem?_getD, h]
theorem tl_le (ds : List Nat) (k : Nat) : tl ds k ≤ k := by
  induction k with
  | zero => simp [tl]
  | succ k ih => simp only [tl]; split <;> omega
theorem val_tl (ds : List Nat) : ∀ k, k ≤ ds.length → val (ds.take (tl ds k)) = val (ds.take k)
  | 0, _ => by simp [tl]
  | k + 1, h => by
    simp only [tl]
    split
    · rename_i h0
      have hk : k < ds.length := by omega
      rw [getD_get hk] at h0
      rw [val_tl ds k (by omega), val_take_succ hk, h0]; simp
    · rfl
theorem tight_tl (ds : List Nat) : ∀ k, k ≤ ds.length → Tight (ds.take (tl ds k))
  | 0, _ => by intro x hx; simp [tl] at hx
  | k + 1, h => by
    simp only [tl]
    split
    · exact tight_tl ds k (by omega)
    · rename_i h0
      intro x hx
      have hk : k < ds.length := by omega
      rw [getD_get hk] at h0
      rw [List.take_succ_eq_append_getElem hk, List.getLast?_concat] at hx
      cases hx
      exact h0
/-- Digits cut at the top. -/
def tr (ds : List Nat) : List Nat := ds.take (tl ds ds.length)
theorem tr_val (ds : List Nat) : val (tr ds) = val ds := by unfold tr; rw [val_tl ds _ (Nat.le_refl _), List.take_length]
theorem tr_tight (ds : List Nat) : Tight (tr ds) := tight_tl ds _ (Nat.le_refl _)
theorem tr_length (ds : List Nat) : (tr ds).length = tl ds ds.length := by simp [tr, tl_le]
theorem tr_length_le (ds : List Nat) : (tr ds).length ≤ ds.length := by rw [tr_length]; exact tl_le _ _
theorem Small.tr {ds : List Nat} (h : Small ds) : Small (tr ds) := h.take _

/-- Tight digits: the top one weighs. -/
theorem Tight.ge {ds : List Nat} (h : Tight ds) (hn : ds ≠ []) : 256 ^ (ds.length - 1) ≤ val ds := by
  have hl : 0 < ds.length := List.length_pos_iff.2 hn
  have e : ds = ds.take (ds.length - 1) ++ [ds[ds.length - 1]] := by
    rw [← List.take_succ_eq_append_getElem (by omega), show ds.length - 1 + 1 = ds.length from by omega, List.take_length]
  have hlast : ds.getLast? = some ds[ds.length - 1] := by rw [List.getLast?_eq_getElem?]; exact List.getElem?_eq_getElem _
  have h0 := h _ hlast
  have hv : val ds = val (ds.take (ds.length - 1)) + 256 ^ (ds.length - 1) * ds[ds.length - 1] := by
    have := val_take_succ (l := ds) (k := ds.length - 1) (by omega)
    rw [show ds.length - 1 + 1 = ds.length from by omega, List.take_length] at this
    exact this
  rw [hv]
  have : 256 ^ (ds.length - 1) * 1 ≤ 256 ^ (ds.length - 1) * ds[ds.length - 1] := Nat.mul_le_mul_left _ (by omega)
  omega
theorem Tight.zero {ds : List Nat} (h : Tight ds) (hv : val ds = 0) : ds = [] := by
  cases hd : ds with
  | nil => rfl
  | cons d l =>
    have := h.ge (by simp [hd])
    have h2 := Nat.pow_pos (n := ds.length - 1) (show 0 < 256 by decide)
    omega
/-- Fewer tight digits: a smaller number. -/
theorem tight_lt {ds es : List Nat} (hs : Small ds) (he : Tight es) (h : ds.length < es.length) : val ds < val es := by
  have h1 := val_lt hs
  have h2 := he.ge (by intro h'; simp [h'] at h)
  have h3 : 256 ^ ds.length ≤ 256 ^ (es.length - 1) := Nat.pow_le_pow_right (by decide) (by omega)
  omega
/-- Digits of one number. -/
theorem small_inj : ∀ {ds es : List Nat}, Small ds → Small es → ds.length = es.length → val ds = val es → ds = es
  | [], [], _, _, _, _ => rfl
  | d :: ds, e :: es, h1, h2, hl, hv => by
    have a1 := h1 d (by simp)
    have a2 := h2 e (by simp)
    simp only [val] at hv
    have hde : d = e := by omega
    subst hde
    exact congrArg (d :: ·) (small_inj (fun x hx => h1 x (by simp [hx])) (fun x hx => h2 x (by simp [hx])) (by simpa using hl) (by omega))
theorem tight_inj {ds es : List Nat} (h1 : Small ds) (h2 : Small es) (t1 : Tight ds) (t2 : Tight es) (hv : val ds = val es) : ds = es := by
  rcases Nat.lt_trichotomy ds.length es.length with h | h | h
  · have := tight_lt h1 t2 h; omega
  · exact small_inj h1 h2 h hv
  · have := tight_lt h2 t1 h; omega

/-! ### Comparing -/
def cmpI (m n : Nat) : Int := if m < n then -1 else if n < m then 1 else 0
theorem cmpI_lt {m n : Nat} (h : m < n) : cmpI m n = -1 := by simp [cmpI, h]
theorem cmpI_gt {m n : Nat} (h : n < m) : cmpI m n = 1 := by
  have : ¬ m < n := by omega
  simp [cmpI, h, this]
theorem cmpI_eq {m n : Nat} (h : m = n) : cmpI m n = 0 := by subst h; simp [cmpI]
theorem cmpI_neg (m n : Nat) : cmpI m n < 0 ↔ m < n := by unfold cmpI; split <;> (try split) <;> omega
theorem cmpI_pos (m n : Nat) : 0 < cmpI m n ↔ n < m := by unfold cmpI; split <;> (try split) <;> omega
theorem cmpI_zero (m n : Nat) : cmpI m n = 0 ↔ m = n := by unfold cmpI; split <;> (try split) <;> omega
/-- Equal above k, parted at k. -/
theorem val_split {ds : List Nat} {k : Nat} (h : k ≤ ds.length) : val ds = val (ds.take k) + 256 ^ k * val (ds.drop k) := by
  have := val_append (ds.take k) (ds.drop k)
  rw [List.take_append_drop, List.length_take, Nat.min_eq_left h] at this
  exact this
theorem lt_of_digit {ds es : List Nat} (hs : Small ds) {k : Nat} (hd : k < ds.length) (he : k < es.length) (h : ds.drop (k + 1) = es.drop (k + 1)) (hlt : ds[k] < es[k]) : val ds < val es := by
  rw [val_split (ds := ds) (k := k + 1) (by omega), val_split (ds := es) (k := k + 1) (by omega), h, val_take_succ hd, val_take_succ he]
  have h1 := val_lt (hs.take k)
  rw [List.length_take, Nat.min_eq_left (by omega)] at h1
  have h2 : 256 ^ k * (ds[k] + 1) ≤ 256 ^ k * es[k] := Nat.mul_le_mul_left _ (by omega)
  rw [Nat.mul_add] at h2
  omega
end Go.Own
