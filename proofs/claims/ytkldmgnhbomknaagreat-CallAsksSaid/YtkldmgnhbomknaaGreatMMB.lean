/- Contracts of functions of the given program. Conditions: as each theorem says. -/
import Derived.Test.YtkldmgnhbomknaaGreatM1
import Derived.Test.YtkldmgnhbomknaaGreatVmQ
set_option linter.unusedVariables false
set_option linter.unusedSimpArgs false
/- Plain laws of messages: fields as bytes. -/
namespace Go.Vm
structure Fld where
  tag : Int
  by_ : Bool
  n : Nat
  b : List UInt8
  deriving DecidableEq
abbrev fldC (f : Fld) : List V := [.int .i64 f.tag,.bool f.by_,.int .u64 f.n,.sl 1 (byteCells f.b) .no]
def fldsE (l : List Fld) : List (List V) := l.map fldC
theorem fldsE_get (l : List Fld) (i : Nat) : (fldsE l)[i]? = (l[i]?).map fldC := by simp [fldsE]
theorem fldsE_length (l : List Fld) : (fldsE l).length = l.length := by simp [fldsE]
theorem fldsE_append (l m : List Fld) : fldsE (l ++ m) = fldsE l ++ fldsE m := by simp [fldsE]
def f0 : Fld := ⟨0,false,0,[]⟩
def rightF (f : Fld) : Bool := decide (1 ≤ f.tag) && (decide (f.tag ≤ 1000) && (if f.by_ then decide (f.n = 0) else decide (f.b = [])))
def behindF (f last : Fld) : Bool := decide (last.tag < f.tag) || (decide (f.tag = last.tag) && (f.by_ && last.by_))
def fitsF (f last : Fld) : Bool := rightF f && behindF f last
def keyN (f : Fld) : Nat := 2 * f.tag.toNat + f.by_.toNat
def layF (f : Fld) : List UInt8 := vb (keyN f) ++ (if f.by_ then vb f.b.length ++ f.b else vb f.n)
def layL (l : List Fld) : List UInt8 := l.flatMap layF
def fitsL : Fld → List Fld → Bool
  | _,[] => true
  | last,f :: l => fitsF f last && fitsL f l
def sizeL (l : List Fld) : Nat := (l.map (·.b.length)).sum
def encS (l : List Fld) : List UInt8 × Int :=
  if 64 < l.length ∨ 4096 < sizeL l then ([],3) else if fitsL f0 l = false then ([],1) else if 4096 < (layL l).length then ([],3) else (layL l,0)
theorem sizeL_take (l : List Fld) (i : Nat) (h : i < l.length) : sizeL (l.take (i + 1)) = sizeL (l.take i) + l[i].b.length := by
  unfold sizeL
  rw [List.take_add_one,List.getElem?_eq_getElem h,Option.toList_some,List.map_append,List.sum_append]
  simp
theorem sizeL_le (l : List Fld) (i : Nat) : sizeL (l.take i) ≤ sizeL l := by
  unfold sizeL
  conv => rhs; rw [← List.take_append_drop i l,List.map_append,List.sum_append]
  omega
theorem size_mem {l : List Fld} {i : Nat} (h : i < l.length) : l[i].b.length ≤ sizeL l := by
  have h1 := sizeL_take l i h
  have h2 := sizeL_le l (i + 1)
  omega
theorem fits_tag {f last : Fld} (h : fitsF f last = true) : 1 ≤ f.tag ∧ f.tag ≤ 1000 := by
  simp only [fitsF,rightF,Bool.and_eq_true,decide_eq_true_eq] at h
  exact ⟨h.1.1,h.1.2.1⟩
theorem right_tag {f : Fld} (h : rightF f = true) : 1 ≤ f.tag ∧ f.tag ≤ 1000 := by
  simp only [rightF,Bool.and_eq_true,decide_eq_true_eq] at h
  exact ⟨h.1,h.2.1⟩
theorem layF_len {f : Fld} (h : 1 ≤ f.tag ∧ f.tag ≤ 1000) (hn : f.n < 18446744073709551616) (hb : f.b.length < 18446744073709551616) : (layF f).length ≤ 20 + f.b.length := by
  have hk : keyN f < 18446744073709551616 := by simp only [keyN]; cases f.by_ <;> simp <;> omega
  have h1 := vb_len10 hk
  have h2 := vb_len10 hn
  have h3 := vb_len10 hb
  unfold layF
  split <;> simp only [List.length_append] <;> omega
/-! ### Reading -/
def fieldS (r : List UInt8) : Fld × Int × Nat :=
  let k := readS r
  if k.2.2 ≠ 0 then (f0,k.2.2,k.2.1) else
  let n := readS (r.drop k.2.1)
  if n.2.2 ≠ 0 then (f0,n.2.2,k.2.1 + n.2.1) else
  if k.1 % 2 ≠ 1 then (⟨((min (k.1 / 2) 1001 : Nat) : Int),false,n.1,[]⟩,0,k.2.1 + n.2.1) else
  if r.length - (k.2.1 + n.2.1) < n.1 then (f0,5,k.2.1 + n.2.1) else
  (⟨((min (k.1 / 2) 1001 : Nat) : Int),true,0,(r.drop (k.2.1 + n.2.1)).take n.1⟩,0,k.2.1 + n.2.1 + n.1)
def decL : Nat → List Fld → Fld → Nat → List UInt8 → List Fld × Int × Int
  | 0,acc,_,_,_ => (acc,acc.length,0)
  | m + 1,acc,last,at_,r =>
    if r = [] then (acc,acc.length,0) else
    let x := fieldS r
    if x.2.1 ≠ 0 then ([],at_,x.2.1) else if fitsF x.1 last = false then ([],at_,1) else if acc.length = 64 then ([],at_,3) else decL m (acc ++ [x.1]) x.1 (at_ + x.2.2) (r.drop x.2.2)
def decS (b : List UInt8) : List Fld × Int × Int := if 4096 < b.length then ([],0,3) else decL b.length [] f0 0 b
theorem read_cases (r : List UInt8) : ((readS r).2.2 = 0 ∧ (readS r).1 < 18446744073709551616 ∧ 0 < (readS r).2.1 ∧ (readS r).2.1 ≤ r.length ∧ vb (readS r).1 = r.take (readS r).2.1) ∨ ((readS r).1 = 0 ∧ (readS r).2.1 = 0 ∧ ((readS r).2.2 = 4 ∨ (readS r).2.2 = 5)) :=
  read_ok (b := r) (n := (readS r).1) (k := (readS r).2.1) (e := (readS r).2.2) rfl
theorem fieldS_len (r : List UInt8) : (fieldS r).2.2 ≤ r.length ∧ ((fieldS r).2.1 = 0 → 0 < (fieldS r).2.2) ∧ (fieldS r).1.n < 18446744073709551616 ∧ (fieldS r).1.b.length ≤ r.length := by
  have h1 := read_cases r
  have h2 := read_cases (r.drop (readS r).2.1)
  rw [List.length_drop] at h2
  unfold fieldS
  simp only
  split
  · rename_i hc
    exact ⟨by show (readS r).2.1 ≤ _; omega,fun e => absurd e hc,by simp [f0],by simp [f0]⟩
  · split
    · rename_i hc
      exact ⟨by show (readS r).2.1 + _ ≤ _; omega,fun e => absurd e hc,by simp [f0],by simp [f0]⟩
    · split
      · exact ⟨by show (readS r).2.1 + _ ≤ _; omega,fun _ => by show 0 < (readS r).2.1 + _; omega,by show (readS (r.drop (readS r).2.1)).1 < _; omega,by simp⟩
      · split
        · exact ⟨by show (readS r).2.1 + _ ≤ _; omega,fun e => by simp at e,by simp [f0],by simp [f0]⟩
        · exact ⟨by show (readS r).2.1 + _ + _ ≤ _; omega,fun _ => by show 0 < (readS r).2.1 + _ + _; omega,by simp,by simp only [List.length_take,List.length_drop]; omega⟩
end Go.Vm
/- Plain laws of messages: what is encoded is decoded, and the other way round. -/
namespace Go.Vm
theorem fits_split {f last : Fld} (h : fitsF f last = true) : rightF f = true ∧ behindF f last = true := by simpa [fitsF] using h
theorem key_lt {f : Fld} (h : 1 ≤ f.tag ∧ f.tag ≤ 1000) : keyN f < 2002 ∧ keyN f / 2 = f.tag.toNat ∧ (keyN f % 2 = 1 ↔ f.by_ = true) := by
  simp only [keyN]; cases f.by_ <;> simp <;> omega
theorem field_lay {f : Fld} (hr : rightF f = true) (hn : f.n < 18446744073709551616) (hb : f.b.length < 18446744073709551616) (r : List UInt8) : fieldS (layF f ++ r) = (f,0,(layF f).length) := by
  have htag := right_tag hr
  obtain ⟨k1,k2,k3⟩ := key_lt htag
  have e1 : readS (layF f ++ r) = (keyN f,(vb (keyN f)).length,0) := by
    unfold layF; rw [List.append_assoc]; exact read_vb (by omega) _
  have e2 : (layF f ++ r).drop (vb (keyN f)).length = (if f.by_ then vb f.b.length ++ f.b else vb f.n) ++ r := by
    unfold layF; rw [List.append_assoc,List.drop_left]
  have hmin : min (keyN f / 2) 1001 = f.tag.toNat := by omega
  have htn : ((f.tag.toNat : Nat) : Int) = f.tag := by omega
  simp only [rightF,Bool.and_eq_true,decide_eq_true_eq] at hr
  unfold fieldS
  simp only [e1,e2,ne_eq,not_true_eq_false,if_false,hmin,htn]
  cases hby : f.by_ with
  | false =>
    have hp : ¬ keyN f % 2 = 1 := by rw [k3,hby]; simp
    have e3 : readS (vb f.n ++ r) = (f.n,(vb f.n).length,0) := read_vb hn r
    have hb0 : f.b = [] := by have := hr.2.2; rw [hby] at this; simpa using this
    simp only [hby,Bool.false_eq_true,if_false,e3,not_true_eq_false,hp,not_false_eq_true,if_true]
    simp only [layF,hby,Bool.false_eq_true,if_false,List.length_append]
    obtain ⟨a,b,c,d⟩ := f
    simp_all
  | true =>
    have hp : keyN f % 2 = 1 := by rw [k3,hby]
    have e3 : readS (vb f.b.length ++ f.b ++ r) = (f.b.length,(vb f.b.length).length,0) := by rw [List.append_assoc]; exact read_vb hb _
    have hn0 : f.n = 0 := by have := hr.2.2; rw [hby] at this; simpa using this
    have hll : (layF f).length = (vb (keyN f)).length + ((vb f.b.length).length + f.b.length) := by simp only [layF,hby,if_true,List.length_append]
    simp only [if_true,e3,not_true_eq_false,if_false,hp]
    rw [if_neg (by rw [List.length_append,hll]; omega)]
    have e4 : (layF f ++ r).drop ((vb (keyN f)).length + (vb f.b.length).length) = f.b ++ r := by
      rw [← List.drop_drop,e2,hby]
      simp
    rw [e4,List.take_left,hll]
    obtain ⟨a,b,c,d⟩ := f
    simp_all
    omega
theorem dec_lay : ∀ (l : List Fld) (n : Nat) (acc : List Fld) (last : Fld) (p : Nat),(∀ f ∈ l,f.n < 18446744073709551616 ∧ f.b.length < 18446744073709551616) → fitsL last l = true → acc.length + l.length ≤ 64 → (layL l).length ≤ n → decL n acc last p (layL l) = (acc ++ l,((acc ++ l).length : Int),0)
  | [],n,acc,last,p,_,_,_,_ => by cases n <;> simp [decL,layL]
  | f :: l,n,acc,last,p,ho,hf,hl,hn => by
    simp only [fitsL,Bool.and_eq_true] at hf
    obtain ⟨hf1,hf2⟩ := hf
    obtain ⟨o1,o2⟩ := ho f (by simp)
    have hr := (fits_split hf1).1
    have hpos : 0 < (layF f).length := by unfold layF; have := vb_pos (keyN f); rw [List.length_append]; omega
    have hlay : layL (f :: l) = layF f ++ layL l := by simp [layL]
    rw [hlay] at hn ⊢
    rw [List.length_append] at hn
    obtain ⟨m,rfl⟩ : ∃ m,n = m + 1 := ⟨n - 1,by omega⟩
    simp only [decL]
    rw [if_neg (by intro e; have := congrArg List.length e; rw [List.length_append,List.length_nil] at this; omega),field_lay hr o1 o2]
    simp only [ne_eq,not_true_eq_false,if_false,hf1,Bool.true_eq_false]
    simp only [List.length_cons] at hl
    rw [if_neg (by omega),List.drop_left,dec_lay l m (acc ++ [f]) f _ (fun g hg => ho g (by simp [hg])) hf2 (by simp; omega) (by omega)]
    simp
theorem dec_enc {l : List Fld} (ho : ∀ f ∈ l,f.n < 18446744073709551616 ∧ f.b.length < 18446744073709551616) (h : (encS l).2 = 0) : decS (encS l).1 = (l,(l.length : Int),0) := by
  unfold encS at h ⊢
  split at h
  · simp at h
  · split at h
    · simp at h
    · split at h
      · simp at h
      · rename_i h1 h2 h3
        rw [if_neg h1,if_neg h2,if_neg h3]
        simp only
        rw [decS,if_neg h3,dec_lay l _ [] f0 0 ho (by simpa using h2) (by simp; omega) (Nat.le_refl _)]
        simp
theorem take_add' {α : Type} (r : List α) (i j : Nat) : r.take (i + j) = r.take i ++ (r.drop i).take j := List.take_add
theorem field_read {r : List UInt8} {f : Fld} {k : Nat} (h : fieldS r = (f,0,k)) (hr : rightF f = true) : layF f = r.take k ∧ k ≤ r.length ∧ 0 < k ∧ f.n < 18446744073709551616 ∧ f.b.length ≤ r.length := by
  obtain ⟨g1,g2,g3,g4⟩ := fieldS_len r
  rw [h] at g1 g2 g3 g4
  refine ⟨?_,g1,g2 rfl,g3,g4⟩
  have htag := right_tag hr
  have c1 := read_cases r
  have c2 := read_cases (r.drop (readS r).2.1)
  rw [List.length_drop] at c2
  unfold fieldS at h
  simp only at h
  split at h
  · rename_i hc; simp only [Prod.mk.injEq] at h; exact absurd h.2.1 hc
  · rename_i hz1
    split at h
    · rename_i hc; simp only [Prod.mk.injEq] at h; exact absurd h.2.1 hc
    · rename_i hz2
      have hk1 : vb (readS r).1 = r.take (readS r).2.1 ∧ (readS r).1 < 18446744073709551616 := by
        rcases c1 with c1 | c1
        · exact ⟨c1.2.2.2.2,c1.2.1⟩
        · exact absurd (by omega) hz1
      have hk2 : vb (readS (r.drop (readS r).2.1)).1 = (r.drop (readS r).2.1).take (readS (r.drop (readS r).2.1)).2.1 := by
        rcases c2 with c2 | c2
        · exact c2.2.2.2.2
        · exact absurd (by omega) hz2
      split at h
      · rename_i hp
        simp only [Prod.mk.injEq,true_and] at h
        obtain ⟨rfl,rfl⟩ := h
        simp only at htag
        have hkey : keyN ⟨((min ((readS r).1 / 2) 1001 : Nat) : Int),false,(readS (r.drop (readS r).2.1)).1,[]⟩ = (readS r).1 := by
          simp only [keyN,Bool.toNat_false]; omega
        unfold layF
        rw [hkey,hk1.1]
        simp only [Bool.false_eq_true,if_false]
        rw [hk2,take_add']
      · rename_i hp
        split at h
        · simp at h
        · rename_i hl
          simp only [Prod.mk.injEq,true_and] at h
          obtain ⟨rfl,rfl⟩ := h
          simp only at htag
          have hkey : keyN ⟨((min ((readS r).1 / 2) 1001 : Nat) : Int),true,0,(r.drop ((readS r).2.1 + (readS (r.drop (readS r).2.1)).2.1)).take (readS (r.drop (readS r).2.1)).1⟩ = (readS r).1 := by
            simp only [keyN,Bool.toNat_true]; omega
          have hbl : ((r.drop ((readS r).2.1 + (readS (r.drop (readS r).2.1)).2.1)).take (readS (r.drop (readS r).2.1)).1).length = (readS (r.drop (readS r).2.1)).1 := by
            rw [List.length_take,List.length_drop]; omega
          unfold layF
          rw [hkey,hk1.1]
          simp only [if_true]
          rw [hbl,hk2,take_add' r ((readS r).2.1 + _),take_add',List.append_assoc]
theorem dec_run : ∀ (n : Nat) (acc : List Fld) (last : Fld) (p : Nat) (r : List UInt8) (L : List Fld) (q : Int),r.length ≤ n → acc.length ≤ 64 → decL n acc last p r = (L,q,0) → ∃ l,L = acc ++ l ∧ layL l = r ∧ fitsL last l = true ∧ L.length ≤ 64 ∧ q = L.length ∧ ∀ f ∈ l,f.n < 18446744073709551616 ∧ f.b.length ≤ r.length
  | 0,acc,last,p,r,L,q,hn,ha,h => by
    simp only [decL,Prod.mk.injEq] at h
    obtain ⟨rfl,rfl,_⟩ := h
    have : r = [] := List.eq_nil_of_length_eq_zero (by omega)
    subst this
    exact ⟨[],by simp,by simp [layL],rfl,ha,rfl,fun f hf => by simp at hf⟩
  | n + 1,acc,last,p,r,L,q,hn,ha,h => by
    simp only [decL] at h
    split at h
    · rename_i hr
      subst hr
      simp only [Prod.mk.injEq] at h
      obtain ⟨rfl,rfl,_⟩ := h
      exact ⟨[],by simp,by simp [layL],rfl,ha,rfl,fun f hf => by simp at hf⟩
    · rcases hx : fieldS r with ⟨f,e,k⟩
      rw [hx] at h
      simp only at h
      split at h
      · rename_i he; simp only [Prod.mk.injEq] at h; exact absurd h.2.2 he
      · rename_i he
        split at h
        · simp at h
        · rename_i hf
          split at h
          · simp at h
          · rename_i h64
            have e0 : e = 0 := by omega
            subst e0
            have hf' : fitsF f last = true := by simpa using hf
            obtain ⟨g1,g2,g3,g4,g5⟩ := field_read hx (fits_split hf').1
            obtain ⟨l,e1,e2,e3,e4,e5,e6⟩ := dec_run n (acc ++ [f]) f (p + k) (r.drop k) L q (by rw [List.length_drop]; omega) (by simp; omega) h
            refine ⟨f :: l,by rw [e1]; simp,?_,?_,e4,e5,?_⟩
            · simp only [layL,List.flatMap_cons]
              rw [show List.flatMap layF l = r.drop k from e2,g1,List.take_append_drop]
            · simp [fitsL,hf',e3]
            · intro g hg
              rcases List.mem_cons.1 hg with rfl | hg
              · exact ⟨g4,g5⟩
              · obtain ⟨o1,o2⟩ := e6 g hg
                rw [List.length_drop] at o2
                exact ⟨o1,by omega⟩
theorem lay_size {last : Fld} : ∀ (l : List Fld),fitsL last l = true → sizeL l ≤ (layL l).length := by
  intro l
  induction l generalizing last with
  | nil => intro _; simp [sizeL,layL]
  | cons f l ih =>
    intro h
    simp only [fitsL,Bool.and_eq_true] at h
    have h1 := ih h.2
    have hr := (fits_split h.1).1
    simp only [rightF,Bool.and_eq_true,decide_eq_true_eq] at hr
    have h2 : f.b.length ≤ (layF f).length := by
      unfold layF
      cases hb : f.by_
      · have := hr.2.2; rw [hb] at this; simp at this; simp [this]
      · simp only [if_true,List.length_append]; omega
    simp only [sizeL,layL,List.map_cons,List.sum_cons,List.flatMap_cons,List.length_append] at *
    omega
theorem enc_dec {b : List UInt8} (h : (decS b).2.2 = 0) : encS (decS b).1 = (b,0) ∧ (decS b).1.length ≤ 64 ∧ (decS b).2.1 = (decS b).1.length ∧ ∀ f ∈ (decS b).1,f.n < 18446744073709551616 ∧ f.b.length ≤ b.length := by
  unfold decS at h ⊢
  split at h
  · simp at h
  · rename_i h4
    rw [if_neg h4]
    rcases hx : decL b.length [] f0 0 b with ⟨L,q,e⟩
    rw [hx] at h
    simp only at h
    subst h
    obtain ⟨l,e1,e2,e3,e4,e5,e6⟩ := dec_run b.length [] f0 0 b L q (Nat.le_refl _) (by simp) hx
    simp only [List.nil_append] at e1
    subst e1
    have hs := lay_size L e3
    rw [e2] at hs
    refine ⟨?_,e4,e5,e6⟩
    simp only
    rw [encS,if_neg (by omega),if_neg (by simp [e3]),if_neg (by rw [e2]; omega),e2]
theorem enc_len (l : List Fld) : (encS l).1.length ≤ 4096 := by
  unfold encS
  split
  · simp
  · split
    · simp
    · split
      · simp
      · simp only; omega
theorem decL_le : ∀ (n : Nat) (acc : List Fld) (last : Fld) (p : Nat) (r : List UInt8),acc.length ≤ 64 → (decL n acc last p r).1.length ≤ 64
  | 0,acc,last,p,r,h => h
  | n + 1,acc,last,p,r,h => by
    simp only [decL]
    split
    · exact h
    · split
      · simp
      · split
        · simp
        · split
          · simp
          · rename_i h64
            exact decL_le n _ _ _ _ (by simp; omega)
theorem dec_le (b : List UInt8) : (decS b).1.length ≤ 64 := by
  unfold decS
  split
  · simp
  · exact decL_le _ _ _ _ _ (by simp)
end Go.Vm
namespace Go.Vm
end Go.Vm
