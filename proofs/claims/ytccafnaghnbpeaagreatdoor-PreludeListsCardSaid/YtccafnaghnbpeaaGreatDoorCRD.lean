/- PreludeLists: plain facts; what the built-in functions give. -/
import Derived.Test.YtccafnaghnbpeaaGreatDoorCRC
set_option linter.all false
namespace Go.Proofs.YtccafnaghnbpeaaGreatDoor
open Go.Abs LQ
set_option maxRecDepth 100000
set_option maxHeartbeats 4000000
noncomputable section
theorem app_W {a b : List O} (h : ok (listO (a ++ b))) (ha : ok (listO a)) (hn : a.length ≤ 8) : W PL False (.call (lispS, dec 13 7956982234992646598644298836322) ([listO a, listO b].map T.c)) [] 3000 fun x _ => x = listO (a ++ b) :=
 W_f22 (fun h => absurd h (by decide)) fun _ => W_c (W_c (app_b h ha (by omega) fun _ _ => rfl))
theorem rev_W {a : List O} (h : ok (listO a)) (hn : a.length ≤ 8) : W PL False (.call (lispS, dec 3 7759218) ([listO a].map T.c)) [] 3000 fun x _ => x = listO a.reverse :=
 W_f23 (fun h => absurd h (by decide)) fun _ => W_c (rev_b h hn (by omega) fun _ _ => rfl)
theorem mem_W {e : O} {a : List O} (h : ok (listO a)) (hn : a.length ≤ 8) : W PL False (.call (lispS, dec 12 33542201473859071681443489133) ([e, listO a].map T.c)) [] 3000 fun x _ => x = listO (memL e a) :=
 W_f24 (fun h => absurd h (by decide)) fun _ => W_c (W_c (mem_b h (by omega) fun _ _ => rfl))
theorem nth_W {k : Nat} {a : List O} (h : ok (listO a)) (hk : k < a.length) (hn : a.length ≤ 8) : W PL False (.call (lispS, dec 3 6845550) ([.num k 1, listO a].map T.c)) [] 3000 fun x _ => x = a[k] :=
 W_f26 (fun h => absurd h (by decide)) fun _ => W_c (W_c (nth_b h hk (by omega) fun _ _ => rfl))
theorem upd_W {k : Nat} {e : O} {a : List O} (h : ok (listO a)) (h2 : ok (listO (a.set k e))) (hk : k < a.length) (hn : a.length ≤ 8) : W PL False (.call (lispS, dec 10 493273875644262058848373) ([.num k 1, e, listO a].map T.c)) [] 3000 fun x _ => x = listO (a.set k e) :=
 W_f27 (fun h => absurd h (by decide)) fun _ => W_c (W_c (W_c (upd_b h h2 hk (by omega) fun _ _ => rfl)))
def fI (e : O) : List O → Int → Int
 | [], _ => -1
 | a :: l, i => if O.eqb a e = true then i else fI e l (i + 1)
theorem eqb_symm {a b : O} : O.eqb a b = O.eqb b a := by
 rw [Bool.eq_iff_iff, O.eqb_t, O.eqb_t]
 exact eq_comm
theorem fI_mem (e : O) : ∀ (a : List O) (i : Nat), (fI e a i = -1 ∧ memL e a = []) ∨ ∃ j, fI e a i = ((i + j : Nat) : Int) ∧ j < a.length ∧ a.drop j = memL e a
 | [], _ => .inl ⟨rfl, rfl⟩
 | x :: a, i => by
  by_cases h : O.eqb x e = true
  ·refine .inr ⟨0, ?_, by simp, ?_⟩
   ·unfold fI; rw [if_pos h]; simp
   ·unfold memL; rw [if_pos (eqb_symm.trans h)]; rfl
  ·unfold fI memL
   rw [if_neg h, if_neg (fun k => h (eqb_symm.trans k))]
   rcases fI_mem e a (i + 1) with ⟨h1, h2⟩ | ⟨j, h1, h2, h3⟩
   ·exact .inl ⟨by simpa using h1, h2⟩
   ·exact .inr ⟨j + 1, by have e1 : ((i : Int) + 1) = ((i + 1 : Nat) : Int) := by omega
                          rw [e1, h1]; congr 1; omega, by simp; omega, by simpa using h3⟩
theorem fI_step {e : O} {a : List O} {k : Nat} (hk : k < a.length) : fI e (a.drop k) k = if O.eqb a[k] e = true then (k : Int) else fI e (a.drop (k + 1)) ((k + 1 : Nat) : Int) := by
 rw [List.drop_eq_getElem_cons hk, fI]
 rfl
theorem rev_step {a : List O} {k : Nat} (hk : k < a.length) : (a.drop k).reverse = (a.drop (k + 1)).reverse ++ [a[k]] := by
 rw [List.drop_eq_getElem_cons hk, List.reverse_cons]
theorem sz_lists {l : List Raw} {m : Nat} (hm : m ≤ 20) (h : fewAll l m = true) : szL (l.map objR) ≤ 1 + 80 * (l.map objR).length ∧ ∀ x ∈ l.map objR, x.fm = true ∧ x.size ≤ 79 := by
 have h := fewAll_ok h
 have hx : ∀ x ∈ l.map objR, x.fm = true ∧ x.size ≤ 79 := fun x hx => by
  obtain ⟨r, hr, rfl⟩ := List.mem_map.1 hx
  have := few_obj (h.2 r hr)
  exact ⟨this.2, by omega⟩
 exact ⟨szL_le fun x hx' => by have := (hx x hx').2; omega, hx⟩
theorem set_ok {a : List O} {e : O} {k : Nat} (h : ∀ x ∈ a, x.fm = true ∧ x.size ≤ 79) (he : e.fm = true ∧ e.size ≤ 79) (hn : a.length ≤ 8) : ok (listO (a.set k e)) := by
 have hx : ∀ x ∈ a.set k e, x.fm = true ∧ x.size ≤ 79 := fun x hx => by
  rcases List.mem_or_eq_of_mem_set hx with hx | rfl
  ·exact h x hx
  ·exact he
 have := szL_le (os := a.set k e) (b := 80) (fun x h => by have := (hx x h).2; omega)
 rw [List.length_set] at this
 exact ok_list.2 ⟨by omega, fun x h => (hx x h).1⟩
theorem app_ok {a b : List O} (h : ∀ x ∈ a, x.fm = true ∧ x.size ≤ 79) (h2 : ∀ x ∈ b, x.fm = true ∧ x.size ≤ 79) (hn : a.length ≤ 8) (hm : b.length ≤ 8) : ok (listO (a ++ b)) := by
 have hx : ∀ x ∈ a ++ b, x.fm = true ∧ x.size ≤ 79 := fun x hx => (List.mem_append.1 hx).elim (h x) (h2 x)
 have := szL_le (os := a ++ b) (b := 80) (fun x h => by have := (hx x h).2; omega)
 rw [List.length_append] at this
 exact ok_list.2 ⟨by omega, fun x h => (hx x h).1⟩
end
end Go.Proofs.YtccafnaghnbpeaaGreatDoor
