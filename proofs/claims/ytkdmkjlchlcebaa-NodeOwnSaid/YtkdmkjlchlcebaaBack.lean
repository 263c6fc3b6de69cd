/- Plain law of chapter 5's forms: what is written is read back, and what is read is written back. No program in sight. -/
import Derived.Test.YtkdmkjlchlcebaaRR4
namespace Go.Gx
set_option linter.unusedVariables false
set_option linter.unusedSimpArgs false
set_option maxRecDepth 100000

theorem beVal_be (u : Nat) : ∀ k, beVal (be u k) = u % 256 ^ k
  | 0 => by simp [be, beVal, Nat.mod_one]
  | k + 1 => by
    have e8 : (2 : Nat) ^ 8 = 256 := rfl
    rw [be, beVal_cons, beVal_be u k, be_len, UInt8.toNat_ofNat', e8, Nat.mod_pow_succ (b := 256), Nat.mul_comm (u / 256 ^ k % 256), Nat.add_comm]
theorem be_beVal : ∀ r : List UInt8, be (beVal r) r.length = r
  | [] => rfl
  | c :: l => by
    have hl := beVal_lt l
    have hp : 0 < 256 ^ l.length := Nat.pow_pos (by decide)
    have hmod : ∀ (a v n : Nat), be (a * 256 ^ n + v) n = be v n := by
      intro a v n
      have gen : ∀ m, m ≤ n → be (a * 256 ^ n + v) m = be v m := by
        intro m
        induction m with
        | zero => intro _; rfl
        | succ m ih =>
          intro hm
          rw [be, be, ih (by omega)]
          congr 1
          have e : 256 ^ n = 256 ^ m * (256 * 256 ^ (n - (m + 1))) := by rw [← Nat.mul_assoc, ← Nat.pow_succ, ← Nat.pow_add]; congr 1; omega
          apply UInt8.toNat_inj.1
          rw [UInt8.toNat_ofNat', UInt8.toNat_ofNat', e, Nat.mul_comm a, Nat.mul_assoc, Nat.mul_add_div (Nat.pow_pos (by decide)), Nat.mul_assoc, Nat.mul_add_mod]
      exact gen n (Nat.le_refl n)
    rw [List.length_cons, be, beVal_cons, hmod, be_beVal l, Nat.mul_comm, Nat.mul_add_div hp, Nat.div_eq_of_lt hl, Nat.add_zero]
    congr 1
    apply UInt8.toNat_inj.1
    rw [UInt8.toNat_ofNat', Nat.mod_eq_of_lt c.toNat_lt]
theorem nbF_top {u : Nat} : ∀ m, u < 256 ^ m → u < 256 ^ nbF u m
  | 0, h => h
  | m + 1, h => by
    unfold nbF
    split
    · rename_i h0
      refine nbF_top m ?_
      have hp : 0 < 256 ^ m := Nat.pow_pos (by decide)
      have := Nat.lt_mul_div_succ u hp
      rw [h0] at this
      omega
    · exact h

theorem getD_app {a b : List UInt8} {c : UInt8} : (a ++ c :: b).getD a.length 0 = c := by simp
theorem number_long {a t r : List UInt8} (h1 : 0 < r.length) (h8 : r.length ≤ 8) (h0 : r[0] ≠ 0) (hv : ¬ beVal r < 248) : numberP (a ++ (UInt8.ofNat (247 + r.length) :: r ++ t)) a.length = .ok (beVal r, a.length + (1 + r.length)) := by
  have hn : (UInt8.ofNat (247 + r.length)).toNat = 247 + r.length := by rw [UInt8.toNat_ofNat', Nat.mod_eq_of_lt (by omega)]
  have htk : ((a ++ (UInt8.ofNat (247 + r.length) :: r ++ t)).drop (a.length + 1)).take r.length = r := by
    rw [List.drop_append]
    simp [List.take_append]
  have hg : (a ++ (UInt8.ofNat (247 + r.length) :: r ++ t)).getD a.length 0 = UInt8.ofNat (247 + r.length) := getD_app
  have hg1 : (a ++ (UInt8.ofNat (247 + r.length) :: r ++ t)).getD (a.length + 1) 0 = r[0] := by
    have h2 : (UInt8.ofNat (247 + r.length) :: r ++ t)[1]? = some r[0] := by
      show (r ++ t)[0]? = _
      rw [List.getElem?_append_left h1, List.getElem?_eq_getElem h1]
    simp only [List.getD_eq_getElem?_getD]
    rw [List.getElem?_append_right (by omega), show a.length + 1 - a.length = 1 by omega, h2]
    rfl
  unfold numberP
  rw [if_neg (by simp), hg, hn, if_neg (by omega), show 247 + r.length - 247 = r.length by omega, if_neg (by simp; omega), hg1, htk, if_neg (by rintro (h | h); exact h0 h; exact hv h), Nat.add_assoc]
theorem number_form {a t : List UInt8} {u : Nat} (hu : u < 18446744073709551616) : numberP (a ++ (formB u ++ t)) a.length = .ok (u, a.length + (formB u).length) := by
  by_cases h : u < 248
  · have e : formB u = [UInt8.ofNat u] := by unfold formB; rw [if_pos h]
    have hn : (UInt8.ofNat u).toNat = u := by rw [UInt8.toNat_ofNat', Nat.mod_eq_of_lt (by omega)]
    unfold numberP
    rw [e, if_neg (by simp)]
    simp only [List.cons_append, List.nil_append, getD_app, hn]
    rw [if_pos h]
    rfl
  · have e : formB u = UInt8.ofNat (247 + nbF u 8) :: be u (nbF u 8) := by unfold formB; rw [if_neg h]
    have h8 : (256 : Nat) ^ 8 = 18446744073709551616 := by decide
    have htop := nbF_top (u := u) 8 (by omega)
    have hle := nbF_le u 8
    have hpos : 1 ≤ nbF u 8 := by
      rcases Nat.eq_zero_or_pos (nbF u 8) with h0 | h0
      · rw [h0] at htop; simp at htop; omega
      · exact h0
    have hbe : beVal (be u (nbF u 8)) = u := by rw [beVal_be, Nat.mod_eq_of_lt htop]
    have hbl := be_len u (nbF u 8)
    have hff := form_first (r := be u (nbF u 8)) (by rw [be_len]; omega) (by rw [be_len]; omega)
    rw [hbe] at hff
    have hlen : (formB u).length = 1 + nbF u 8 := by rw [e, List.length_cons, be_len]; omega
    have hno := hff.1 (by rw [hlen, be_len])
    have := number_long (a := a) (t := t) (r := be u (nbF u 8)) (by omega) (by omega) (fun h0 => hno (.inl h0)) (by rw [hbe]; exact h)
    rw [hbe, hbl, ← e, ← hlen] at this
    exact this
theorem num_form {a t : List UInt8} {u : Nat} (hu : u < 9223372036854775808) : numP (a ++ (formB u ++ t)) a.length = .ok (u, a.length + (formB u).length) := by
  unfold numP
  rw [number_form (by omega)]
  simp only
  rw [if_neg (by omega)]
theorem bytes_form {a t s : List UInt8} (hs : s.length < 9223372036854775808) : bytesP (a ++ (formB s.length ++ s ++ t)) a.length = .ok (s, a.length + (formB s.length ++ s).length) := by
  unfold bytesP
  rw [List.append_assoc, num_form hs]
  simp only
  rw [if_neg (by simp; omega)]
  congr 2
  · rw [← List.append_assoc, ← List.length_append, List.drop_left, List.take_left]
  · simp; omega

theorem front_split (d : List UInt8) : ∃ n, d = frontB d ++ List.replicate n 0 := by
  have h := List.takeWhile_append_dropWhile (p := fun c : UInt8 => c == 0) (l := d.reverse)
  have hz : ∃ n, d.reverse.takeWhile (fun c : UInt8 => c == 0) = List.replicate n 0 := by
    refine ⟨(d.reverse.takeWhile (fun c : UInt8 => c == 0)).length, ?_⟩
    rw [List.eq_replicate_iff]
    refine ⟨rfl, fun c hc => ?_⟩
    have hall := List.all_takeWhile (p := fun c : UInt8 => c == 0) (l := d.reverse)
    have := List.all_eq_true.1 hall c hc
    simpa using this
  obtain ⟨n, hn⟩ := hz
  refine ⟨n, ?_⟩
  have h2 := congrArg List.reverse h
  rw [List.reverse_append, List.reverse_reverse, hn, List.reverse_replicate] at h2
  exact h2.symm
theorem front_pad {d : List UInt8} (h : d.length = 32) : padD (frontB d) = d := by
  have hobt := front_split d
  obtain ⟨n, hn⟩ := hobt
  have hl := congrArg List.length hn
  rw [List.length_append, List.length_replicate, h] at hl
  unfold padD
  rw [show 32 - (frontB d).length = n by omega]
  exact hn.symm
theorem front_good (d : List UInt8) (h : d.length = 32) : ¬ badD (frontB d) := by
  rintro (h1 | ⟨h1, h2⟩)
  · have := frontB_len d; omega
  · unfold frontB at h2
    rw [List.getLast?_reverse] at h2
    have := List.head?_dropWhile_not (fun c : UInt8 => c == 0) d.reverse
    rw [h2] at this
    simp at this
theorem pad_front {d : List UInt8} (h : ¬ badD d) : frontB (padD d) = d := by
  unfold frontB padD
  rw [List.reverse_append, List.reverse_replicate]
  have hdr : ∀ n (l : List UInt8), (List.replicate n 0 ++ l).dropWhile (fun c : UInt8 => c == 0) = l.dropWhile (fun c : UInt8 => c == 0) := by
    intro n l
    induction n with
    | zero => rfl
    | succ n ih => rw [List.replicate_succ]; simp [ih]
  have e := hdr (32 - d.length) d.reverse
  rw [e]
  cases hd : d.reverse with
  | nil => simp at hd; subst hd; rfl
  | cons c l =>
    have hc : ¬ c = 0 := fun hc => h (.inr ⟨by
      have := congrArg List.length hd
      simp at this; omega, by rw [List.getLast?_eq_head?_reverse, hd, hc]; rfl⟩)
    rw [List.dropWhile_cons, if_neg (by simpa using hc), ← hd, List.reverse_reverse]

theorem ent_form {a t c : List UInt8} {x : Ent} (hx : x.ok) (hw : wrongE x.kind x.name c = 0) : entP c (a ++ (entB x ++ t)) a.length = .ok (x, a.length + (entB x).length) := by
  have hw' := hw
  unfold wrongE at hw'
  split at hw'
  · rename_i hk
    obtain ⟨hk, hnm, hlt⟩ := hk
    have hnl := isName_len hnm
    have hobt : ∃ k : Nat, x.kind = k := ⟨x.kind.toNat, by omega⟩
    obtain ⟨k, hkk⟩ := hobt
    have hfl := frontB_len x.dig
    unfold entP
    have e1 : a ++ (entB x ++ t) = a ++ (formB k ++ ((formB x.name.length ++ x.name) ++ (formB (frontB x.dig).length ++ frontB x.dig) ++ t)) := by
      unfold entB
      rw [hkk, Int.toNat_natCast]
      simp [List.append_assoc]
    have e2 : a ++ (entB x ++ t) = (a ++ formB k) ++ (formB x.name.length ++ x.name ++ ((formB (frontB x.dig).length ++ frontB x.dig) ++ t)) := by rw [e1]; simp [List.append_assoc]
    have e3 : a ++ (entB x ++ t) = (a ++ formB k ++ (formB x.name.length ++ x.name)) ++ (formB (frontB x.dig).length ++ frontB x.dig ++ t) := by rw [e1]; simp [List.append_assoc]
    have h1 := num_form (a := a) (t := (formB x.name.length ++ x.name) ++ (formB (frontB x.dig).length ++ frontB x.dig) ++ t) (u := k) (by omega)
    have h2 := bytes_form (a := a ++ formB k) (t := (formB (frontB x.dig).length ++ frontB x.dig) ++ t) (s := x.name) (by omega)
    have h3 := bytes_form (a := (a ++ formB k) ++ (formB x.name.length ++ x.name)) (t := t) (s := frontB x.dig) (by have := hx.1; omega)
    have hL : (a ++ formB k).length = a.length + (formB k).length := List.length_append
    have hL2 : ((a ++ formB k) ++ (formB x.name.length ++ x.name)).length = a.length + (formB k).length + (formB x.name.length ++ x.name).length := by rw [List.length_append, hL]
    rw [← e1] at h1
    rw [← e2, hL] at h2
    rw [← e3, hL2] at h3
    rw [h1]
    simp only
    rw [if_pos (by omega), h2]
    simp only
    rw [if_pos (by rw [← hkk]; exact hw), h3]
    simp only
    rw [if_neg (front_good _ hx.1), front_pad hx.1, ← hkk]
    congr 2
    unfold entB
    rw [hkk, Int.toNat_natCast]
    simp only [List.length_append]
    omega
  · cases hw'
theorem ents_form {t : List UInt8} : ∀ {l : List Ent} {a c : List UInt8}, Oks l → errE c l = 0 → entsP (a ++ (l.flatMap entB ++ t)) l.length c a.length = .ok (l, a.length + (l.flatMap entB).length)
  | [], a, c, _, _ => by simp [entsP]
  | x :: l, a, c, ho, he => by
    simp only [errE] at he
    split at he
    · rename_i hw
      rw [List.length_cons, entsP]
      have e1 : a ++ ((x :: l).flatMap entB ++ t) = a ++ (entB x ++ (l.flatMap entB ++ t)) := by simp [List.append_assoc]
      have e2 : a ++ ((x :: l).flatMap entB ++ t) = (a ++ entB x) ++ (l.flatMap entB ++ t) := by simp [List.append_assoc]
      have h1 := ent_form (a := a) (t := l.flatMap entB ++ t) (ho x (by simp)) hw
      have h2 := ents_form (t := t) (a := a ++ entB x) (c := x.name) (l := l) (fun y hy => ho y (by simp [hy])) he
      have hL : (a ++ entB x).length = a.length + (entB x).length := List.length_append
      rw [← e1] at h1
      rw [← e2, hL] at h2
      rw [h1]
      simp only
      rw [h2]
      simp only
      congr 2
      simp only [List.flatMap_cons, List.length_append]
      omega
    · rename_i hw; exact absurd he hw
theorem check_parts {l : List Ent} (hc : checkE l = 0) : l.length ≤ 1024 ∧ errE [] l = 0 := by
  unfold checkE at hc
  split at hc
  · cases hc
  · exact ⟨by omega, hc⟩
theorem dec_form {l : List Ent} (t : List UInt8) (ho : Oks l) (hc : checkE l = 0) : decP (encB l ++ t) = .ok (l, (encB l).length) := by
  have hobt := check_parts hc
  obtain ⟨hl, he⟩ := hobt
  unfold decP
  have e1 : encB l ++ t = [] ++ (formB 1 ++ (formB l.length ++ l.flatMap entB ++ t)) := by simp [encB, List.append_assoc]
  have e2 : encB l ++ t = formB 1 ++ (formB l.length ++ (l.flatMap entB ++ t)) := by simp [encB, List.append_assoc]
  have e3 : encB l ++ t = (formB 1 ++ formB l.length) ++ (l.flatMap entB ++ t) := by simp [encB, List.append_assoc]
  have h1 := num_form (a := []) (t := formB l.length ++ l.flatMap entB ++ t) (u := 1) (by omega)
  have h2 := num_form (a := formB 1) (t := l.flatMap entB ++ t) (u := l.length) (by omega)
  have h3 := ents_form (t := t) (a := formB 1 ++ formB l.length) (c := []) ho he
  have hL : (formB 1 ++ formB l.length).length = (formB 1).length + (formB l.length).length := List.length_append
  have h0 : ([] : List UInt8).length = 0 := rfl
  rw [← e1, h0, Nat.zero_add] at h1
  rw [← e2] at h2
  rw [← e3, hL] at h3
  rw [h1]
  simp only [if_true]
  unfold mostP
  rw [h2]
  simp only
  rw [if_neg (by omega)]
  simp only
  rw [h3]
  congr 2
  simp only [encB, List.length_append]
theorem dec_enc {l : List Ent} (ho : Oks l) (hc : checkE l = 0) (hlen : (encB l).length ≤ 1000000) : decE (encB l) = 0 ∧ decL (encB l) = l := by
  have h := dec_form [] ho hc
  rw [List.append_nil] at h
  have hr : readP (encB l) = (0, l) := by unfold readP; rw [h]; simp
  have he : decE (encB l) = 0 := by unfold decE; rw [if_neg (by omega), hr]
  exact ⟨he, by unfold decL; rw [if_pos he, hr]⟩
theorem enc_inj {l m : List Ent} (ho : Oks l) (hc : checkE l = 0) (ho' : Oks m) (hc' : checkE m = 0) (h : encB l = encB m) : l = m := by
  have h1 := dec_form [] ho hc
  have h2 := dec_form [] ho' hc'
  rw [h, h2] at h1
  injection h1 with h1
  injection h1 with h1
  exact h1.symm
/-- None's bytes are a front of others'. -/
theorem enc_front {l m : List Ent} {t : List UInt8} (ho : Oks l) (hc : checkE l = 0) (ho' : Oks m) (hc' : checkE m = 0) (h : encB m = encB l ++ t) : t = [] := by
  have h1 := dec_form t ho hc
  have h2 := dec_form [] ho' hc'
  rw [List.append_nil] at h2
  rw [← h, h2] at h1
  injection h1 with h1
  injection h1 with h1 h3
  have := congrArg List.length h
  rw [List.length_append] at this
  exact List.eq_nil_of_length_eq_zero (by omega)

theorem number_back {bs : List UInt8} {p u q : Nat} (h : numberP bs p = .ok (u, q)) : bs.take q = bs.take p ++ formB u := by
  unfold numberP at h
  split at h
  · cases h
  rename_i hp
  have hp' : p < bs.length := by omega
  have hg := getD_of hp'
  rw [hg] at h
  have hcl := (bs[p]).toNat_lt
  split at h
  · rename_i hs
    injection h with h; injection h with h1 h2
    subst h1; subst h2
    have e : formB (bs[p]).toNat = [bs[p]] := by unfold formB; rw [if_pos hs, UInt8.ofNat_toNat]
    rw [e, List.take_succ_eq_append_getElem hp']
  · rename_i hs
    have hobt : ∃ k, (bs[p]).toNat - 247 = k := ⟨_, rfl⟩
    obtain ⟨k, hkd⟩ := hobt
    rw [hkd] at h
    split at h
    · cases h
    rename_i hk
    split at h
    · cases h
    rename_i hno
    injection h with h; injection h with h1 h2
    rw [← h2]
    clear h2
    have hrl : ((bs.drop (p + 1)).take k).length = k := by simp; omega
    have hrd : (bs.drop (p + 1)).take k = (bs.drop (p + 1)).take k := rfl
    generalize hr : (bs.drop (p + 1)).take k = r at hrl h1 hno
    have hg1 : bs.getD (p + 1) 0 = r[0]'(by omega) := by
      rw [getD_of (by omega)]
      simp [← hr]
    rw [hg1] at hno
    have hlen := (form_first (r := r) (by omega) (by omega)).2 hno
    have e : formB (beVal r) = bs[p] :: r := by
      have hv : ¬ beVal r < 248 := fun h => hno (.inr h)
      unfold formB at hlen ⊢
      rw [if_neg hv] at hlen ⊢
      rw [List.length_cons, be_len] at hlen
      rw [show nbF (beVal r) 8 = r.length by omega, be_beVal, hrl, show 247 + k = (bs[p]).toNat by omega, UInt8.ofNat_toNat]
    rw [← h1, e, Nat.add_assoc, List.take_add, List.drop_eq_getElem_cons hp', Nat.add_comm 1 k, List.take_succ_cons, hr]
theorem num_back {bs : List UInt8} {p u q : Nat} (h : numP bs p = .ok (u, q)) : bs.take q = bs.take p ++ formB u := by
  unfold numP at h
  split at h
  · cases h
  · rename_i h1
    split at h
    · cases h
    · injection h with h; injection h with h2 h3
      subst h2; subst h3
      exact number_back h1
theorem bytes_back {bs s : List UInt8} {p q : Nat} (h : bytesP bs p = .ok (s, q)) : bs.take q = bs.take p ++ (formB s.length ++ s) := by
  unfold bytesP at h
  split at h
  · cases h
  · rename_i n q0 h1
    split at h
    · cases h
    · rename_i hn
      injection h with h; injection h with h2 h3
      subst h2; subst h3
      have hl : ((bs.drop q0).take n).length = n := by simp; omega
      rw [List.take_add, num_back h1, hl, List.append_assoc]
theorem ent_back {bs a : List UInt8} {p q : Nat} {x : Ent} (h : entP a bs p = .ok (x, q)) : bs.take q = bs.take p ++ entB x ∧ wrongE x.kind x.name a = 0 := by
  unfold entP at h
  split at h
  · cases h
  · rename_i k p1 h1
    split at h
    · split at h
      · cases h
      · rename_i s p2 h2
        split at h
        · rename_i hw
          split at h
          · cases h
          · rename_i d p3 h3
            split at h
            · cases h
            · rename_i hbad
              injection h with h; injection h with hx hq
              subst hx; subst hq
              refine ⟨?_, hw⟩
              have e : entB ⟨s, k, padD d⟩ = formB k ++ (formB s.length ++ s) ++ (formB d.length ++ d) := by
                unfold entB
                simp only [pad_front hbad, Int.toNat_natCast]
              rw [bytes_back h3, bytes_back h2, num_back h1, e]
              simp only [List.append_assoc]
        · cases h
    · cases h
theorem ents_back {bs : List UInt8} : ∀ {n : Nat} {a : List UInt8} {p q : Nat} {l : List Ent}, entsP bs n a p = .ok (l, q) → bs.take q = bs.take p ++ l.flatMap entB ∧ errE a l = 0 ∧ l.length = n
  | 0, a, p, q, l, h => by
    unfold entsP at h
    injection h with h; injection h with h1 h2
    subst h1; subst h2
    exact ⟨by simp, rfl, rfl⟩
  | n + 1, a, p, q, l, h => by
    unfold entsP at h
    split at h
    · cases h
    · rename_i x p1 h1
      have hobt := ent_back h1
      obtain ⟨e1, e2⟩ := hobt
      split at h
      · cases h
      · rename_i m p2 h2
        have hobt := ents_back h2
        obtain ⟨e3, e4, e5⟩ := hobt
        injection h with h; injection h with h3 h4
        subst h3; subst h4
        refine ⟨?_, ?_, by simp [e5]⟩
        · rw [e3, e1, List.flatMap_cons, List.append_assoc]
        · simp only [errE]
          rw [if_pos e2]
          exact e4
theorem dec_back {bs : List UInt8} (h : decE bs = 0) : checkE (decL bs) = 0 ∧ encB (decL bs) = bs := by
  unfold decL
  rw [if_pos h]
  unfold decE at h
  split at h
  · cases h
  · unfold readP at h ⊢
    cases hd : decP bs with
    | error e => rw [hd] at h; exact absurd h (decP_err hd)
    | ok lq =>
      obtain ⟨l, q⟩ := lq
      rw [hd] at h
      simp only at h ⊢
      split at h
      · cases h
      · rename_i hq
        rw [if_neg hq]
        unfold decP at hd
        split at hd
        · cases hd
        · rename_i t p1 h1
          split at hd
          · rename_i ht
            subst ht
            split at hd
            · cases hd
            · rename_i n p2 h2
              unfold mostP at h2
              split at h2
              · cases h2
              · rename_i n' p3 h3
                split at h2
                · cases h2
                · rename_i hn
                  injection h2 with h2; injection h2 with h4 h5
                  subst h4; subst h5
                  have hobt := ents_back hd
                  obtain ⟨e1, e2, e3⟩ := hobt
                  refine ⟨?_, ?_⟩
                  · show checkE l = 0
                    unfold checkE
                    rw [if_neg (by omega)]
                    exact e2
                  · have e0 := num_back h1
                    have e4 := num_back h3
                    rw [List.take_zero, List.nil_append] at e0
                    rw [e4, e0] at e1
                    rw [List.take_of_length_le (by omega)] at e1
                    rw [e1]
                    unfold encB
                    rw [e3]
          · cases hd
end Go.Gx
