/- Of the walks of this seat: contracts of functions of the given program, proved over the abstract values of the texts Vm. Conditions: as each theorem says. -/
import Derived.Test.YtoicninkfmfnbaaKVK
import Derived.Test.YtoicninkfmfnbaaVm36
set_option linter.unusedVariables false
set_option linter.unusedSimpArgs false
namespace Go.Proofs.Ytoicninkfmfnbaa
open Go.Vm Go.Sort
inductive Vl where
  | nul
  | unk
  | bool (b : Bool)
  | int (n : Int)
  | pt (n m : Int)
  | text (s : List UInt8)
  | list (l : List Vl)
  | map (es : List (List UInt8 × Vl))
def fl (n : Int) : Nat := FloatKind.f64.nearest n
def vV : Vl → V
  | .nul => .nilIface
  | .unk => .iface 55 (.agg [])
  | .bool b => .iface 4 (.bool b)
  | .int n => .iface 3 (.int .i64 n)
  | .pt n m => .iface 56 (.complex .f64 (fl n) (fl m))
  | .text s => .iface 9 (.str s)
  | .list l => .iface 58 (.sl 1 (l.map fun x => [vV x]) .no)
  | .map es => .iface 60 (.mapv (es.map fun p => (.str p.1, .agg [vV p.2])))
termination_by v => SizeOf.sizeOf v
decreasing_by
  all_goals first
    | (have := List.sizeOf_lt_of_mem ‹_ ∈ l›; simp only [Vl.list.sizeOf_spec]; omega)
    | (rename_i hm; obtain ⟨a, b⟩ := p; have := List.sizeOf_lt_of_mem (by assumption); simp only [Prod.mk.sizeOf_spec, Vl.map.sizeOf_spec] at this ⊢; omega)
def vE (l : List Vl) : List (List V) := l.map fun x => [vV x]
def mE (es : List (List UInt8 × Vl)) : List (V × V) := es.map fun p => (.str p.1, .agg [vV p.2])
theorem vV_nul : vV .nul = .nilIface := by rw [vV]
theorem vV_unk : vV .unk = .iface 55 (.agg []) := by rw [vV]
theorem vV_bool (b : Bool) : vV (.bool b) = .iface 4 (.bool b) := by rw [vV]
theorem vV_int (n : Int) : vV (.int n) = .iface 3 (.int .i64 n) := by rw [vV]
theorem vV_pt (n m : Int) : vV (.pt n m) = .iface 56 (.complex .f64 (fl n) (fl m)) := by rw [vV]
theorem vV_text (s : List UInt8) : vV (.text s) = .iface 9 (.str s) := by rw [vV]
theorem vV_list (l : List Vl) : vV (.list l) = .iface 58 (.sl 1 (vE l) .no) := by rw [vV]; rfl
theorem vV_map (es : List (List UInt8 × Vl)) : vV (.map es) = .iface 60 (.mapv (mE es)) := by rw [vV]; rfl
theorem vE_length (l : List Vl) : (vE l).length = l.length := by simp [vE]
theorem mE_length (l : List (List UInt8 × Vl)) : (mE l).length = l.length := by simp [mE]
theorem vE_get {l : List Vl} {i : Nat} (h : i < l.length) : (vE l)[i]? = some [vV l[i]] := by simp [vE, h]
theorem vE_app (a b : List Vl) : vE a ++ vE b = vE (a ++ b) := by simp [vE]
theorem Vl.ind {Q : Vl → Prop} (h0 : Q .nul) (h1 : Q .unk) (h2 : ∀ b, Q (.bool b)) (h3 : ∀ n, Q (.int n)) (h4 : ∀ n m, Q (.pt n m)) (h5 : ∀ s, Q (.text s)) (h6 : ∀ l : List Vl, (∀ x ∈ l, Q x) → Q (.list l)) (h7 : ∀ es : List (List UInt8 × Vl), (∀ p ∈ es, Q p.2) → Q (.map es)) : ∀ v, Q v
  | .nul => h0
  | .unk => h1
  | .bool b => h2 b
  | .int n => h3 n
  | .pt n m => h4 n m
  | .text s => h5 s
  | .list l => h6 l fun x _ => Vl.ind h0 h1 h2 h3 h4 h5 h6 h7 x
  | .map es => h7 es fun p _ => Vl.ind h0 h1 h2 h3 h4 h5 h6 h7 p.2
termination_by v => SizeOf.sizeOf v
decreasing_by
  all_goals first
    | (have := List.sizeOf_lt_of_mem ‹_ ∈ l›; simp only [Vl.list.sizeOf_spec]; omega)
    | (rename_i hm; obtain ⟨a, b⟩ := p; have := List.sizeOf_lt_of_mem (by assumption); simp only [Prod.mk.sizeOf_spec, Vl.map.sizeOf_spec] at this ⊢; omega)
def kys (es : List (List UInt8 × Vl)) : List (List UInt8) := (es.map Prod.fst).mergeSort leB
def fnd (k : List UInt8) : List (List UInt8 × Vl) → Option Vl
  | [] => none
  | p :: es => if p.1 = k then some p.2 else fnd k es
inductive Vl.Ok : Vl → Prop where
  | nul : Vl.Ok .nul
  | unk : Vl.Ok .unk
  | bool b : Vl.Ok (.bool b)
  | int n : Vl.Ok (.int n)
  | pt n m : -9007199254740992 ≤ n → n ≤ 9007199254740992 → -9007199254740992 ≤ m → m ≤ 9007199254740992 → Vl.Ok (.pt n m)
  | text s : Vl.Ok (.text s)
  | list l : l.length * 16 ≤ 100000000000000 → (∀ x ∈ l, Vl.Ok x) → Vl.Ok (.list l)
  | map es : es.length * 16 ≤ 100000000000000 → (es.map Prod.fst).Nodup → (∀ p ∈ es, p.1.length ≤ 9223372036854775807) → (∀ p ∈ es, Vl.Ok p.2) → Vl.Ok (.map es)
def Vl.kind : Vl → Int
  | .nul => 0
  | .unk => 1
  | .bool _ => 2
  | .int _ => 3
  | .pt _ _ => 4
  | .text _ => 5
  | .list _ => 6
  | .map _ => 7
end Go.Proofs.Ytoicninkfmfnbaa
namespace Go.Proofs.Ytoicninkfmfnbaa
open Go.Vm Go.Sort
attribute [local go_sem] eq_self decide_true decide_false AH.put_ne
attribute [local go_sem_proc] Nat.reduceBEq Nat.reduceAdd Nat.reduceSub Nat.reduceMul Nat.reduceEqDiff Nat.reduceLeDiff Nat.reduceLT Int.reduceLE Int.reduceLT Int.reduceToNat Int.reduceAdd Int.reduceEq Int.reduceNeg
attribute [local go_sem] List.drop_zero toNat_succ Nat.sub_zero Int.toNat_natCast Option.map_some Int.natCast_nonneg decide_eq_true_eq decide_eq_false_iff_not
/- (flange/value.Value).Kind -/
abbrev k7_0 : MC :=
 .cond (.t 24) ((.seq (.reg [
 ⟨some 2, none, .val (.mv (.c (.int .i64 7)))⟩] [2]) (.ret))) (.skip)
abbrev k7_1 : MC :=
 .cond (.t 21) ((.seq (.reg [
 ⟨some 2, none, .val (.mv (.c (.int .i64 6)))⟩] [2]) (.ret))) ((.seq (.reg [
 ⟨some 23, none, .val (.tya 60 true .nilMap (.t 4))⟩,
 ⟨some 24, none, .val (.ext (.t 23) 1)⟩,
 ⟨some 25, none, .val (.ext (.t 23) 0)⟩] [24]) k7_0))
abbrev k7_2 : MC :=
 .cond (.t 18) ((.seq (.reg [
 ⟨some 2, none, .val (.mv (.c (.int .i64 5)))⟩] [2]) (.ret))) ((.seq (.reg [
 ⟨some 20, none, .val (.tya 58 true .nilSl (.t 4))⟩,
 ⟨some 21, none, .val (.ext (.t 20) 1)⟩,
 ⟨some 22, none, .val (.ext (.t 20) 0)⟩] [4, 21]) k7_1))
abbrev k7_3 : MC :=
 .cond (.t 15) ((.seq (.reg [
 ⟨some 2, none, .val (.mv (.c (.int .i64 4)))⟩] [2]) (.ret))) ((.seq (.reg [
 ⟨some 17, none, .val (.tya 9 true (.str []) (.t 4))⟩,
 ⟨some 18, none, .val (.ext (.t 17) 1)⟩,
 ⟨some 19, none, .val (.ext (.t 17) 0)⟩] [4, 18]) k7_2))
abbrev k7_4 : MC :=
 .cond (.t 12) ((.seq (.reg [
 ⟨some 2, none, .val (.mv (.c (.int .i64 3)))⟩] [2]) (.ret))) ((.seq (.reg [
 ⟨some 14, none, .val (.tya 56 true (.complex .f64 0 0) (.t 4))⟩,
 ⟨some 15, none, .val (.ext (.t 14) 1)⟩,
 ⟨some 16, none, .val (.ext (.t 14) 0)⟩] [4, 15]) k7_3))
abbrev k7_5 : MC :=
 .cond (.t 9) ((.seq (.reg [
 ⟨some 2, none, .val (.mv (.c (.int .i64 2)))⟩] [2]) (.ret))) ((.seq (.reg [
 ⟨some 11, none, .val (.tya 3 true (.int .i64 0) (.t 4))⟩,
 ⟨some 12, none, .val (.ext (.t 11) 1)⟩,
 ⟨some 13, none, .val (.ext (.t 11) 0)⟩] [4, 12]) k7_4))
abbrev k7_6 : MC :=
 .cond (.t 6) ((.seq (.reg [
 ⟨some 2, none, .val (.mv (.c (.int .i64 1)))⟩] [2]) (.ret))) ((.seq (.reg [
 ⟨some 8, none, .val (.tya 4 true (.bool false) (.t 4))⟩,
 ⟨some 9, none, .val (.ext (.t 8) 1)⟩,
 ⟨some 10, none, .val (.ext (.t 8) 0)⟩] [4, 9]) k7_5))
abbrev k7_7 : MC :=
 .block 0 ((.seq (.reg [
 ⟨some 5, none, .val (.tya 55 true (.agg []) (.t 4))⟩,
 ⟨some 6, none, .val (.ext (.t 5) 1)⟩,
 ⟨some 7, none, .val (.ext (.t 5) 0)⟩] [4, 6]) k7_6))
abbrev k7_8 : MC :=
 (.seq (.reg [
 ⟨some 2, none, .val (.mv (.c (.int .i64 0)))⟩] [2]) (.ret))
abbrev k7_9 : MC :=
 (.seq ((.seq (.reg [
 ⟨some 3, none, .val (.faddr 0 (.t 1))⟩,
 ⟨some 4, none, .val (.load false 1 (.t 3))⟩] [4]) k7_7)) k7_8)
abbrev k7 : MC :=
 (.seq (.reg [
 ⟨some 1, none, .boxi (.t 0)⟩,
 ⟨some 2, none, .val (.mv (.c (.int .i64 0)))⟩] [1]) k7_9)
theorem c7 : Try.f7.body.bind (mcOf Try.prog (List.contains [1] ·) (List.getD [([], [1]), ([], [4]), ([], [4, 6]), ([], [2]), ([], [4, 9]), ([], [2]), ([], [4, 12]), ([], [2]), ([], [4, 15]), ([], [2]), ([], [4, 18]), ([], [2]), ([], [4, 21]), ([], [2]), ([], [24]), ([], [2]), ([], [2])] · ([], [])) 26) = some k7 := by kernel_rfl
theorem r7 : rvsOf Try.prog Try.f7.results.toList = some [.tmp 2] := by kernel_rfl
/- (flange/value.Value).Bool -/
abbrev k44_0 : MC :=
 (.seq (.reg [
 ⟨some 12, none, .val (.mv (.t 4))⟩,
 ⟨some 13, none, .val (.mv (.t 5))⟩,
 ⟨some 2, none, .val (.mv (.t 12))⟩,
 ⟨some 3, none, .val (.mv (.t 13))⟩] [2, 3]) (.ret))
abbrev k44_1 : MC :=
 (.seq (.reg [
 ⟨some 7, none, .val (.faddr 0 (.t 1))⟩,
 ⟨some 8, none, .val (.load false 1 (.t 7))⟩,
 ⟨some 9, none, .val (.tya 4 true (.bool false) (.t 8))⟩,
 ⟨some 6, none, .val (.mv (.t 9))⟩,
 ⟨some 10, none, .val (.ext (.t 6) 0)⟩,
 ⟨some 11, none, .val (.ext (.t 6) 1)⟩,
 ⟨some 4, none, .val (.mv (.t 10))⟩,
 ⟨some 5, none, .val (.mv (.t 11))⟩] [4, 5]) k44_0)
abbrev k44 : MC :=
 (.seq (.reg [
 ⟨some 1, none, .boxi (.t 0)⟩,
 ⟨some 2, none, .val (.mv (.c (.bool false)))⟩,
 ⟨some 3, none, .val (.mv (.c (.bool false)))⟩] [1]) k44_1)
theorem c44 : Try.f44.body.bind (mcOf Try.prog (List.contains [1] ·) (List.getD [([], [1]), ([], [4, 5]), ([], [2, 3])] · ([], [])) 14) = some k44 := by kernel_rfl
theorem r44 : rvsOf Try.prog Try.f44.results.toList = some [.tmp 2, .tmp 3] := by kernel_rfl
/- (flange/value.Value).Int -/
abbrev k15_0 : MC :=
 (.seq (.reg [
 ⟨some 12, none, .val (.mv (.t 4))⟩,
 ⟨some 13, none, .val (.mv (.t 5))⟩,
 ⟨some 2, none, .val (.mv (.t 12))⟩,
 ⟨some 3, none, .val (.mv (.t 13))⟩] [2, 3]) (.ret))
abbrev k15_1 : MC :=
 (.seq (.reg [
 ⟨some 7, none, .val (.faddr 0 (.t 1))⟩,
 ⟨some 8, none, .val (.load false 1 (.t 7))⟩,
 ⟨some 9, none, .val (.tya 3 true (.int .i64 0) (.t 8))⟩,
 ⟨some 6, none, .val (.mv (.t 9))⟩,
 ⟨some 10, none, .val (.ext (.t 6) 0)⟩,
 ⟨some 11, none, .val (.ext (.t 6) 1)⟩,
 ⟨some 4, none, .val (.mv (.t 10))⟩,
 ⟨some 5, none, .val (.mv (.t 11))⟩] [4, 5]) k15_0)
abbrev k15 : MC :=
 (.seq (.reg [
 ⟨some 1, none, .boxi (.t 0)⟩,
 ⟨some 2, none, .val (.mv (.c (.int .i64 0)))⟩,
 ⟨some 3, none, .val (.mv (.c (.bool false)))⟩] [1]) k15_1)
theorem c15 : Try.f15.body.bind (mcOf Try.prog (List.contains [1] ·) (List.getD [([], [1]), ([], [4, 5]), ([], [2, 3])] · ([], [])) 14) = some k15 := by kernel_rfl
theorem r15 : rvsOf Try.prog Try.f15.results.toList = some [.tmp 2, .tmp 3] := by kernel_rfl
/- (flange/value.Value).Text -/
abbrev k47_0 : MC :=
 (.seq (.reg [
 ⟨some 12, none, .val (.mv (.t 4))⟩,
 ⟨some 13, none, .val (.mv (.t 5))⟩,
 ⟨some 2, none, .val (.mv (.t 12))⟩,
 ⟨some 3, none, .val (.mv (.t 13))⟩] [2, 3]) (.ret))
abbrev k47_1 : MC :=
 (.seq (.reg [
 ⟨some 7, none, .val (.faddr 0 (.t 1))⟩,
 ⟨some 8, none, .val (.load false 1 (.t 7))⟩,
 ⟨some 9, none, .val (.tya 9 true (.str []) (.t 8))⟩,
 ⟨some 6, none, .val (.mv (.t 9))⟩,
 ⟨some 10, none, .val (.ext (.t 6) 0)⟩,
 ⟨some 11, none, .val (.ext (.t 6) 1)⟩,
 ⟨some 4, none, .val (.mv (.t 10))⟩,
 ⟨some 5, none, .val (.mv (.t 11))⟩] [4, 5]) k47_0)
abbrev k47 : MC :=
 (.seq (.reg [
 ⟨some 1, none, .boxi (.t 0)⟩,
 ⟨some 2, none, .val (.mv (.c (.str [])))⟩,
 ⟨some 3, none, .val (.mv (.c (.bool false)))⟩] [1]) k47_1)
theorem c47 : Try.f47.body.bind (mcOf Try.prog (List.contains [1] ·) (List.getD [([], [1]), ([], [4, 5]), ([], [2, 3])] · ([], [])) 14) = some k47 := by kernel_rfl
theorem r47 : rvsOf Try.prog Try.f47.results.toList = some [.tmp 2, .tmp 3] := by kernel_rfl
/- flange/value.Int -/
abbrev k14_0 : MC :=
 (.seq (.reg [
 ⟨some 3, none, .val (.mv (.t 0))⟩,
 ⟨some 4, none, .val (.mkif 3 (.t 3))⟩,
 ⟨some 5, none, .build [.nilIface] [(0, 1, (.t 4))]⟩,
 ⟨none, none, .store 1 (.t 2) (.t 5)⟩] [2]) (.ret))
abbrev k14 : MC :=
 (.seq (.reg [
 ⟨some 2, none, .zalloc [.nilIface]⟩] [0, 2]) k14_0)
theorem c14 : Try.f14.body.bind (mcOf Try.prog (List.contains [] ·) (List.getD [([], [0, 2]), ([], [2])] · ([], [])) 6) = some k14 := by kernel_rfl
theorem r14 : rvsOf Try.prog Try.f14.results.toList = some [.cell 2 true 1] := by kernel_rfl
/- flange/value.Of -/
abbrev k27_0 : MC :=
 (.seq (.reg [
 ⟨some 3, none, .val (.mv (.t 0))⟩,
 ⟨some 4, none, .val (.mkif 4 (.t 3))⟩,
 ⟨some 5, none, .build [.nilIface] [(0, 1, (.t 4))]⟩,
 ⟨none, none, .store 1 (.t 2) (.t 5)⟩] [2]) (.ret))
abbrev k27 : MC :=
 (.seq (.reg [
 ⟨some 2, none, .zalloc [.nilIface]⟩] [0, 2]) k27_0)
theorem c27 : Try.f27.body.bind (mcOf Try.prog (List.contains [] ·) (List.getD [([], [0, 2]), ([], [2])] · ([], [])) 6) = some k27 := by kernel_rfl
theorem r27 : rvsOf Try.prog Try.f27.results.toList = some [.cell 2 true 1] := by kernel_rfl
/- flange/value.Text -/
abbrev k29_0 : MC :=
 (.seq (.reg [
 ⟨some 3, none, .val (.mv (.t 0))⟩,
 ⟨some 4, none, .val (.mkif 9 (.t 3))⟩,
 ⟨some 5, none, .build [.nilIface] [(0, 1, (.t 4))]⟩,
 ⟨none, none, .store 1 (.t 2) (.t 5)⟩] [2]) (.ret))
abbrev k29 : MC :=
 (.seq (.reg [
 ⟨some 2, none, .zalloc [.nilIface]⟩] [0, 2]) k29_0)
theorem c29 : Try.f29.body.bind (mcOf Try.prog (List.contains [] ·) (List.getD [([], [0, 2]), ([], [2])] · ([], [])) 6) = some k29 := by kernel_rfl
theorem r29 : rvsOf Try.prog Try.f29.results.toList = some [.cell 2 true 1] := by kernel_rfl
/- flange/value.Later -/
abbrev k26_0 : MC :=
 (.seq (.reg [
 ⟨some 1, none, .build [] []⟩,
 ⟨some 2, none, .val (.mkif 55 (.t 1))⟩,
 ⟨some 3, none, .build [.nilIface] [(0, 1, (.t 2))]⟩,
 ⟨none, none, .store 1 (.t 0) (.t 3)⟩] [0]) (.ret))
abbrev k26 : MC :=
 (.seq (.reg [
 ⟨some 0, none, .zalloc [.nilIface]⟩] [0]) k26_0)
theorem c26 : Try.f26.body.bind (mcOf Try.prog (List.contains [] ·) (List.getD [([], [0]), ([], [0])] · ([], [])) 4) = some k26 := by kernel_rfl
theorem r26 : rvsOf Try.prog Try.f26.results.toList = some [.cell 0 true 1] := by kernel_rfl
/- flange/value.Unset -/
abbrev k17_0 : MC :=
 (.seq (.reg [
 ⟨some 1, none, .build [.nilIface] []⟩,
 ⟨none, none, .store 1 (.t 0) (.t 1)⟩] [0]) (.ret))
abbrev k17 : MC :=
 (.seq (.reg [
 ⟨some 0, none, .zalloc [.nilIface]⟩] [0]) k17_0)
theorem c17 : Try.f17.body.bind (mcOf Try.prog (List.contains [] ·) (List.getD [([], [0]), ([], [0])] · ([], [])) 2) = some k17 := by kernel_rfl
theorem r17 : rvsOf Try.prog Try.f17.results.toList = some [.cell 0 true 1] := by kernel_rfl
def Vl.isB : Vl → Bool × Bool
  | .bool b => (b, true)
  | _ => (false, false)
def Vl.isI : Vl → Int × Bool
  | .int n => (n, true)
  | _ => (0, false)
def Vl.isT : Vl → List UInt8 × Bool
  | .text s => (s, true)
  | _ => ([], false)
theorem kind_calls (v : Vl) (H : AH) : ACalls Try.prog 7 [.agg [vV v]] H (fun o H' => o = .ret (.int .i64 v.kind) ∧ H' = H) := by
  refine ACalls.drop ?_
  refine acalls Try.func7 c7 r7 (by simp [Try.ntmps7]) ?_
  cases v
  all_goals simp only [vV_nul, vV_unk, vV_bool, vV_int, vV_pt, vV_text, vV_list, vV_map]
  repeat' (first | with_reducible (first | refine am_seq ?_ | refine am_block ?_) | ((with_reducible apply am_cond); (case hb => rfl); all_goals (intro hc; (try simp only [reduceCtorEq, bD, beq_iff_eq] at hc); (try (exfalso; omega)))) | ((first | with_reducible (first | refine am_reg ?_ | refine am_skip ?_ | refine am_exit ?_ | refine am_ret ?_ | refine vc_intro ?_ | refine need_elems (by assumption) ?_ | refine vlen_acc (by assumption) ?_ | refine need_bytes (by assumption) ?_ | refine need_lk ?_) | ((with_reducible refine alloc_intro (fun ko hko => ?_)) <;> (try have hne := fresh_ne (by assumption) hko) <;> (try have hnk := fresh_ne hk hko) <;> (try have hnk2 := fresh_ne hk2 hko) <;> (try simp only [AH.put_none] at hko)) | done) <;> (try simp -implicitDefEqProofs (disch := omega) only [go_sem, true_or, or_true, true_and])))
  all_goals exact end_same
theorem bool_calls (v : Vl) (H : AH) : ACalls Try.prog 44 [.agg [vV v]] H (fun o H' => o = .ret (.tuple [.bool v.isB.1, .bool v.isB.2]) ∧ H' = H) := by
  refine ACalls.drop ?_
  refine acalls Try.func44 c44 r44 (by simp [Try.ntmps44]) ?_
  cases v
  all_goals simp only [vV_nul, vV_unk, vV_bool, vV_int, vV_pt, vV_text, vV_list, vV_map]
  repeat' (first | with_reducible (first | refine am_seq ?_ | refine am_block ?_) | ((with_reducible apply am_cond); (case hb => rfl); all_goals (intro hc; (try simp only [reduceCtorEq, bD, beq_iff_eq] at hc); (try (exfalso; omega)))) | ((first | with_reducible (first | refine am_reg ?_ | refine am_skip ?_ | refine am_exit ?_ | refine am_ret ?_ | refine vc_intro ?_ | refine need_elems (by assumption) ?_ | refine vlen_acc (by assumption) ?_ | refine need_bytes (by assumption) ?_ | refine need_lk ?_) | ((with_reducible refine alloc_intro (fun ko hko => ?_)) <;> (try have hne := fresh_ne (by assumption) hko) <;> (try have hnk := fresh_ne hk hko) <;> (try have hnk2 := fresh_ne hk2 hko) <;> (try simp only [AH.put_none] at hko)) | done) <;> (try simp -implicitDefEqProofs (disch := omega) only [go_sem, true_or, or_true, true_and])))
  all_goals exact end_same
theorem int_calls (v : Vl) (H : AH) : ACalls Try.prog 15 [.agg [vV v]] H (fun o H' => o = .ret (.tuple [.int .i64 v.isI.1, .bool v.isI.2]) ∧ H' = H) := by
  refine ACalls.drop ?_
  refine acalls Try.func15 c15 r15 (by simp [Try.ntmps15]) ?_
  cases v
  all_goals simp only [vV_nul, vV_unk, vV_bool, vV_int, vV_pt, vV_text, vV_list, vV_map]
  repeat' (first | with_reducible (first | refine am_seq ?_ | refine am_block ?_) | ((with_reducible apply am_cond); (case hb => rfl); all_goals (intro hc; (try simp only [reduceCtorEq, bD, beq_iff_eq] at hc); (try (exfalso; omega)))) | ((first | with_reducible (first | refine am_reg ?_ | refine am_skip ?_ | refine am_exit ?_ | refine am_ret ?_ | refine vc_intro ?_ | refine need_elems (by assumption) ?_ | refine vlen_acc (by assumption) ?_ | refine need_bytes (by assumption) ?_ | refine need_lk ?_) | ((with_reducible refine alloc_intro (fun ko hko => ?_)) <;> (try have hne := fresh_ne (by assumption) hko) <;> (try have hnk := fresh_ne hk hko) <;> (try have hnk2 := fresh_ne hk2 hko) <;> (try simp only [AH.put_none] at hko)) | done) <;> (try simp -implicitDefEqProofs (disch := omega) only [go_sem, true_or, or_true, true_and])))
  all_goals exact end_same
theorem text_calls (v : Vl) (H : AH) : ACalls Try.prog 47 [.agg [vV v]] H (fun o H' => o = .ret (.tuple [.str v.isT.1, .bool v.isT.2]) ∧ H' = H) := by
  refine ACalls.drop ?_
  refine acalls Try.func47 c47 r47 (by simp [Try.ntmps47]) ?_
  cases v
  all_goals simp only [vV_nul, vV_unk, vV_bool, vV_int, vV_pt, vV_text, vV_list, vV_map]
  repeat' (first | with_reducible (first | refine am_seq ?_ | refine am_block ?_) | ((with_reducible apply am_cond); (case hb => rfl); all_goals (intro hc; (try simp only [reduceCtorEq, bD, beq_iff_eq] at hc); (try (exfalso; omega)))) | ((first | with_reducible (first | refine am_reg ?_ | refine am_skip ?_ | refine am_exit ?_ | refine am_ret ?_ | refine vc_intro ?_ | refine need_elems (by assumption) ?_ | refine vlen_acc (by assumption) ?_ | refine need_bytes (by assumption) ?_ | refine need_lk ?_) | ((with_reducible refine alloc_intro (fun ko hko => ?_)) <;> (try have hne := fresh_ne (by assumption) hko) <;> (try have hnk := fresh_ne hk hko) <;> (try have hnk2 := fresh_ne hk2 hko) <;> (try simp only [AH.put_none] at hko)) | done) <;> (try simp -implicitDefEqProofs (disch := omega) only [go_sem, true_or, or_true, true_and])))
  all_goals exact end_same
theorem mint_calls (n : Int) (H : AH) : ACalls Try.prog 14 [.int .i64 n] H (fun o H' => o = .ret (.agg [vV (.int n)]) ∧ H' = H) := by
  refine ACalls.drop ?_
  rw [vV_int]
  refine acalls Try.func14 c14 r14 (by simp [Try.ntmps14]) ?_
  repeat' (first | with_reducible (first | refine am_seq ?_ | refine am_block ?_) | ((with_reducible apply am_cond); (case hb => rfl); all_goals (intro hc; (try simp only [reduceCtorEq, bD, beq_iff_eq] at hc); (try (exfalso; omega)))) | ((first | with_reducible (first | refine am_reg ?_ | refine am_skip ?_ | refine am_exit ?_ | refine am_ret ?_ | refine vc_intro ?_ | refine need_elems (by assumption) ?_ | refine vlen_acc (by assumption) ?_ | refine need_bytes (by assumption) ?_ | refine need_lk ?_) | ((with_reducible refine alloc_intro (fun ko hko => ?_)) <;> (try have hne := fresh_ne (by assumption) hko) <;> (try have hnk := fresh_ne hk hko) <;> (try have hnk2 := fresh_ne hk2 hko) <;> (try simp only [AH.put_none] at hko)) | done) <;> (try simp -implicitDefEqProofs (disch := omega) only [go_sem])))
  all_goals (refine drop_end (by (first | exact fun _ _ h => h | (intro s x h; first | exact no_sub _ h | exact nil_no _ h | exact AccP.sub (by assumption) _ _ h | (refine agg_sub rfl ?_ x h; repeat (first | exact .nil | refine .cons (fun _ h => h) ?_ | refine .cons (fun _ h => nil_no _ h) ?_ | refine .cons (fun _ h => no_sub _ h) ?_ | refine .cons (fun _ h => AccP.sub (by assumption) _ _ h) ?_)) | (refine tuple_sub ?_ x h; repeat (first | exact .nil | refine .cons (fun _ h => h) ?_ | refine .cons (fun _ h => nil_no _ h) ?_ | refine .cons (fun _ h => no_sub _ h) ?_ | refine .cons (fun _ h => AccP.sub (by assumption) _ _ h) ?_ | refine .cons (fun _ h => agg_sub rfl (by repeat (first | exact .nil | refine .cons (fun _ h => h) ?_ | refine .cons (fun _ h => nil_no _ h) ?_ | refine .cons (fun _ h => no_sub _ h) ?_ | refine .cons (fun _ h => AccP.sub (by assumption) _ _ h) ?_)) _ h) ?_))))) (by (repeat (first | exact AH.le_refl _ | assumption | exact AccP.le (by assumption) | refine AH.le_put ?_ (by first | assumption | exact none_of_le (by assumption) (by assumption) | exact And.right (by assumption) | exact And.right (And.right (by assumption))) _ | refine AH.le_trans ?_ (AccP.le (by assumption))))))
theorem mof_calls (b : Bool) (H : AH) : ACalls Try.prog 27 [.bool b] H (fun o H' => o = .ret (.agg [vV (.bool b)]) ∧ H' = H) := by
  refine ACalls.drop ?_
  rw [vV_bool]
  refine acalls Try.func27 c27 r27 (by simp [Try.ntmps27]) ?_
  repeat' (first | with_reducible (first | refine am_seq ?_ | refine am_block ?_) | ((with_reducible apply am_cond); (case hb => rfl); all_goals (intro hc; (try simp only [reduceCtorEq, bD, beq_iff_eq] at hc); (try (exfalso; omega)))) | ((first | with_reducible (first | refine am_reg ?_ | refine am_skip ?_ | refine am_exit ?_ | refine am_ret ?_ | refine vc_intro ?_ | refine need_elems (by assumption) ?_ | refine vlen_acc (by assumption) ?_ | refine need_bytes (by assumption) ?_ | refine need_lk ?_) | ((with_reducible refine alloc_intro (fun ko hko => ?_)) <;> (try have hne := fresh_ne (by assumption) hko) <;> (try have hnk := fresh_ne hk hko) <;> (try have hnk2 := fresh_ne hk2 hko) <;> (try simp only [AH.put_none] at hko)) | done) <;> (try simp -implicitDefEqProofs (disch := omega) only [go_sem])))
  all_goals (refine drop_end (by (first | exact fun _ _ h => h | (intro s x h; first | exact no_sub _ h | exact nil_no _ h | exact AccP.sub (by assumption) _ _ h | (refine agg_sub rfl ?_ x h; repeat (first | exact .nil | refine .cons (fun _ h => h) ?_ | refine .cons (fun _ h => nil_no _ h) ?_ | refine .cons (fun _ h => no_sub _ h) ?_ | refine .cons (fun _ h => AccP.sub (by assumption) _ _ h) ?_)) | (refine tuple_sub ?_ x h; repeat (first | exact .nil | refine .cons (fun _ h => h) ?_ | refine .cons (fun _ h => nil_no _ h) ?_ | refine .cons (fun _ h => no_sub _ h) ?_ | refine .cons (fun _ h => AccP.sub (by assumption) _ _ h) ?_ | refine .cons (fun _ h => agg_sub rfl (by repeat (first | exact .nil | refine .cons (fun _ h => h) ?_ | refine .cons (fun _ h => nil_no _ h) ?_ | refine .cons (fun _ h => no_sub _ h) ?_ | refine .cons (fun _ h => AccP.sub (by assumption) _ _ h) ?_)) _ h) ?_))))) (by (repeat (first | exact AH.le_refl _ | assumption | exact AccP.le (by assumption) | refine AH.le_put ?_ (by first | assumption | exact none_of_le (by assumption) (by assumption) | exact And.right (by assumption) | exact And.right (And.right (by assumption))) _ | refine AH.le_trans ?_ (AccP.le (by assumption))))))
theorem mtext_calls (s : List UInt8) (H : AH) : ACalls Try.prog 29 [.str s] H (fun o H' => o = .ret (.agg [vV (.text s)]) ∧ H' = H) := by
  refine ACalls.drop ?_
  rw [vV_text]
  refine acalls Try.func29 c29 r29 (by simp [Try.ntmps29]) ?_
  repeat' (first | with_reducible (first | refine am_seq ?_ | refine am_block ?_) | ((with_reducible apply am_cond); (case hb => rfl); all_goals (intro hc; (try simp only [reduceCtorEq, bD, beq_iff_eq] at hc); (try (exfalso; omega)))) | ((first | with_reducible (first | refine am_reg ?_ | refine am_skip ?_ | refine am_exit ?_ | refine am_ret ?_ | refine vc_intro ?_ | refine need_elems (by assumption) ?_ | refine vlen_acc (by assumption) ?_ | refine need_bytes (by assumption) ?_ | refine need_lk ?_) | ((with_reducible refine alloc_intro (fun ko hko => ?_)) <;> (try have hne := fresh_ne (by assumption) hko) <;> (try have hnk := fresh_ne hk hko) <;> (try have hnk2 := fresh_ne hk2 hko) <;> (try simp only [AH.put_none] at hko)) | done) <;> (try simp -implicitDefEqProofs (disch := omega) only [go_sem])))
  all_goals (refine drop_end (by (first | exact fun _ _ h => h | (intro s x h; first | exact no_sub _ h | exact nil_no _ h | exact AccP.sub (by assumption) _ _ h | (refine agg_sub rfl ?_ x h; repeat (first | exact .nil | refine .cons (fun _ h => h) ?_ | refine .cons (fun _ h => nil_no _ h) ?_ | refine .cons (fun _ h => no_sub _ h) ?_ | refine .cons (fun _ h => AccP.sub (by assumption) _ _ h) ?_)) | (refine tuple_sub ?_ x h; repeat (first | exact .nil | refine .cons (fun _ h => h) ?_ | refine .cons (fun _ h => nil_no _ h) ?_ | refine .cons (fun _ h => no_sub _ h) ?_ | refine .cons (fun _ h => AccP.sub (by assumption) _ _ h) ?_ | refine .cons (fun _ h => agg_sub rfl (by repeat (first | exact .nil | refine .cons (fun _ h => h) ?_ | refine .cons (fun _ h => nil_no _ h) ?_ | refine .cons (fun _ h => no_sub _ h) ?_ | refine .cons (fun _ h => AccP.sub (by assumption) _ _ h) ?_)) _ h) ?_))))) (by (repeat (first | exact AH.le_refl _ | assumption | exact AccP.le (by assumption) | refine AH.le_put ?_ (by first | assumption | exact none_of_le (by assumption) (by assumption) | exact And.right (by assumption) | exact And.right (And.right (by assumption))) _ | refine AH.le_trans ?_ (AccP.le (by assumption))))))
theorem mlater_calls (H : AH) : ACalls Try.prog 26 [] H (fun o H' => o = .ret (.agg [vV (.unk)]) ∧ H' = H) := by
  refine ACalls.drop ?_
  rw [vV_unk]
  refine acalls Try.func26 c26 r26 (by simp [Try.ntmps26]) ?_
  repeat' (first | with_reducible (first | refine am_seq ?_ | refine am_block ?_) | ((with_reducible apply am_cond); (case hb => rfl); all_goals (intro hc; (try simp only [reduceCtorEq, bD, beq_iff_eq] at hc); (try (exfalso; omega)))) | ((first | with_reducible (first | refine am_reg ?_ | refine am_skip ?_ | refine am_exit ?_ | refine am_ret ?_ | refine vc_intro ?_ | refine need_elems (by assumption) ?_ | refine vlen_acc (by assumption) ?_ | refine need_bytes (by assumption) ?_ | refine need_lk ?_) | ((with_reducible refine alloc_intro (fun ko hko => ?_)) <;> (try have hne := fresh_ne (by assumption) hko) <;> (try have hnk := fresh_ne hk hko) <;> (try have hnk2 := fresh_ne hk2 hko) <;> (try simp only [AH.put_none] at hko)) | done) <;> (try simp -implicitDefEqProofs (disch := omega) only [go_sem])))
  all_goals (refine drop_end (by (first | exact fun _ _ h => h | (intro s x h; first | exact no_sub _ h | exact nil_no _ h | exact AccP.sub (by assumption) _ _ h | (refine agg_sub rfl ?_ x h; repeat (first | exact .nil | refine .cons (fun _ h => h) ?_ | refine .cons (fun _ h => nil_no _ h) ?_ | refine .cons (fun _ h => no_sub _ h) ?_ | refine .cons (fun _ h => AccP.sub (by assumption) _ _ h) ?_)) | (refine tuple_sub ?_ x h; repeat (first | exact .nil | refine .cons (fun _ h => h) ?_ | refine .cons (fun _ h => nil_no _ h) ?_ | refine .cons (fun _ h => no_sub _ h) ?_ | refine .cons (fun _ h => AccP.sub (by assumption) _ _ h) ?_ | refine .cons (fun _ h => agg_sub rfl (by repeat (first | exact .nil | refine .cons (fun _ h => h) ?_ | refine .cons (fun _ h => nil_no _ h) ?_ | refine .cons (fun _ h => no_sub _ h) ?_ | refine .cons (fun _ h => AccP.sub (by assumption) _ _ h) ?_)) _ h) ?_))))) (by (repeat (first | exact AH.le_refl _ | assumption | exact AccP.le (by assumption) | refine AH.le_put ?_ (by first | assumption | exact none_of_le (by assumption) (by assumption) | exact And.right (by assumption) | exact And.right (And.right (by assumption))) _ | refine AH.le_trans ?_ (AccP.le (by assumption))))))
theorem munset_calls (H : AH) : ACalls Try.prog 17 [] H (fun o H' => o = .ret (.agg [vV (.nul)]) ∧ H' = H) := by
  refine ACalls.drop ?_
  rw [vV_nul]
  refine acalls Try.func17 c17 r17 (by simp [Try.ntmps17]) ?_
  repeat' (first | with_reducible (first | refine am_seq ?_ | refine am_block ?_) | ((with_reducible apply am_cond); (case hb => rfl); all_goals (intro hc; (try simp only [reduceCtorEq, bD, beq_iff_eq] at hc); (try (exfalso; omega)))) | ((first | with_reducible (first | refine am_reg ?_ | refine am_skip ?_ | refine am_exit ?_ | refine am_ret ?_ | refine vc_intro ?_ | refine need_elems (by assumption) ?_ | refine vlen_acc (by assumption) ?_ | refine need_bytes (by assumption) ?_ | refine need_lk ?_) | ((with_reducible refine alloc_intro (fun ko hko => ?_)) <;> (try have hne := fresh_ne (by assumption) hko) <;> (try have hnk := fresh_ne hk hko) <;> (try have hnk2 := fresh_ne hk2 hko) <;> (try simp only [AH.put_none] at hko)) | done) <;> (try simp -implicitDefEqProofs (disch := omega) only [go_sem])))
  all_goals (refine drop_end (by (first | exact fun _ _ h => h | (intro s x h; first | exact no_sub _ h | exact nil_no _ h | exact AccP.sub (by assumption) _ _ h | (refine agg_sub rfl ?_ x h; repeat (first | exact .nil | refine .cons (fun _ h => h) ?_ | refine .cons (fun _ h => nil_no _ h) ?_ | refine .cons (fun _ h => no_sub _ h) ?_ | refine .cons (fun _ h => AccP.sub (by assumption) _ _ h) ?_)) | (refine tuple_sub ?_ x h; repeat (first | exact .nil | refine .cons (fun _ h => h) ?_ | refine .cons (fun _ h => nil_no _ h) ?_ | refine .cons (fun _ h => no_sub _ h) ?_ | refine .cons (fun _ h => AccP.sub (by assumption) _ _ h) ?_ | refine .cons (fun _ h => agg_sub rfl (by repeat (first | exact .nil | refine .cons (fun _ h => h) ?_ | refine .cons (fun _ h => nil_no _ h) ?_ | refine .cons (fun _ h => no_sub _ h) ?_ | refine .cons (fun _ h => AccP.sub (by assumption) _ _ h) ?_)) _ h) ?_))))) (by (repeat (first | exact AH.le_refl _ | assumption | exact AccP.le (by assumption) | refine AH.le_put ?_ (by first | assumption | exact none_of_le (by assumption) (by assumption) | exact And.right (by assumption) | exact And.right (And.right (by assumption))) _ | refine AH.le_trans ?_ (AccP.le (by assumption))))))
end Go.Proofs.Ytoicninkfmfnbaa
namespace Go.Proofs.Ytoicninkfmfnbaa
open Go.Vm Go.Sort
attribute [local go_sem] eq_self decide_true decide_false AH.put_ne
attribute [local go_sem_proc] Nat.reduceBEq Nat.reduceAdd Nat.reduceSub Nat.reduceMul Nat.reduceEqDiff Nat.reduceLeDiff Nat.reduceLT Int.reduceLE Int.reduceLT Int.reduceToNat Int.reduceAdd Int.reduceEq Int.reduceNeg
attribute [local go_sem] List.drop_zero toNat_succ Nat.sub_zero Int.toNat_natCast Option.map_some Int.natCast_nonneg decide_eq_true_eq decide_eq_false_iff_not
/- (flange/value.Value).Keys -/
abbrev k51_0 : MC :=
 (.seq (.reg [
 ⟨some 11, none, .val (.mv (.t 3))⟩,
 ⟨some 12, none, .call 69 [(.t 11)]⟩,
 ⟨some 13, none, .call 68 [(.t 12)]⟩,
 ⟨some 2, none, .val (.mv (.t 13))⟩] [2]) (.ret))
abbrev k51_1 : MC :=
 (.seq (.reg [
 ⟨some 6, none, .val (.faddr 0 (.t 1))⟩,
 ⟨some 7, none, .val (.load false 1 (.t 6))⟩,
 ⟨some 8, none, .val (.tya 60 true .nilMap (.t 7))⟩,
 ⟨some 5, none, .val (.mv (.t 8))⟩,
 ⟨some 9, none, .val (.ext (.t 5) 0)⟩,
 ⟨some 10, none, .val (.ext (.t 5) 1)⟩,
 ⟨some 3, none, .val (.mv (.t 9))⟩,
 ⟨some 4, none, .val (.mv (.t 10))⟩] [3]) k51_0)
abbrev k51 : MC :=
 (.seq (.reg [
 ⟨some 1, none, .boxi (.t 0)⟩,
 ⟨some 2, none, .val (.mv (.c .nilSl))⟩] [1]) k51_1)
theorem c51 : Try.f51.body.bind (mcOf Try.prog (List.contains [1] ·) (List.getD [([], [1]), ([], [3]), ([], [2])] · ([], [])) 14) = some k51 := by kernel_rfl
theorem r51 : rvsOf Try.prog Try.f51.results.toList = some [.tmp 2] := by kernel_rfl
/- maps.Keys[flange/value.table,string,flange/value.Value] -/
abbrev k69_0 : MC :=
 (.seq (.reg [
 ⟨some 3, none, .val (.mkfn (.func 79) [] [(.t 1)])⟩,
 ⟨some 2, none, .val (.mv (.t 3))⟩] [2]) (.ret))
abbrev k69 : MC :=
 (.seq (.reg [
 ⟨some 1, none, .box (.t 0)⟩,
 ⟨some 2, none, .val (.mv (.c .nilFunc))⟩] [1]) k69_0)
theorem c69 : Try.f69.body.bind (mcOf Try.prog (List.contains [] ·) (List.getD [([], [1]), ([], [2])] · ([], [])) 4) = some k69 := by kernel_rfl
theorem r69 : rvsOf Try.prog Try.f69.results.toList = some [.tmp 2] := by kernel_rfl
def Vl.at (k : List UInt8) : Vl → Option Vl
  | .map es => fnd k es
  | _ => none
def Vl.keys : Vl → List (List UInt8)
  | .map es => kys es
  | _ => []
theorem mE_find (n : List UInt8) : ∀ l, mfind .str (.str n) (mE l) = some ((fnd n l).map fun x => V.agg [vV x])
  | [] => rfl
  | p :: l => by
    simp only [mE, List.map_cons, mfind, BK.eq, fnd]
    have := mE_find n l
    by_cases h : p.1 = n
    · simp [h]
    · have h' : ¬ n = p.1 := fun e => h e.symm
      simp only [h, h', decide_false, if_false]; exact this
theorem mkeys_calls {m : V} (hm : m = .nilMap ∨ ∃ es, m = .mapv es) (H : AH) : ACalls Try.prog 69 [m] H (fun o H' => ∃ v, o = .ret v ∧ ∃ ko, H ko = none ∧ v = .func (.func 79) [] [.ptr ko 0] ∧ H' = H.put ko (.cells [m])) := by
  refine acalls Try.func69 c69 r69 (by simp [Try.ntmps69]) ?_
  rcases hm with rfl | ⟨es, rfl⟩
  · repeat' (first | with_reducible (first | refine am_seq ?_ | refine am_block ?_) | ((with_reducible apply am_cond); (case hb => rfl); all_goals (intro hc; (try simp only [reduceCtorEq, bD, beq_iff_eq] at hc); (try (exfalso; omega)))) | ((first | with_reducible (first | refine am_reg ?_ | refine am_skip ?_ | refine am_exit ?_ | refine am_ret ?_ | refine vc_intro ?_ | refine need_elems (by assumption) ?_ | refine vlen_acc (by assumption) ?_ | refine need_bytes (by assumption) ?_ | refine need_lk ?_) | ((with_reducible refine alloc_intro (fun ko hko => ?_)) <;> (try have hne := fresh_ne (by assumption) hko) <;> (try have hnk := fresh_ne hk hko) <;> (try have hnk2 := fresh_ne hk2 hko) <;> (try simp only [AH.put_none] at hko)) | done) <;> (try simp -implicitDefEqProofs (disch := omega) only [go_sem, true_or, or_true, true_and])))
    all_goals exact ⟨_, rfl, _, hko, rfl, rfl⟩
  · repeat' (first | with_reducible (first | refine am_seq ?_ | refine am_block ?_) | ((with_reducible apply am_cond); (case hb => rfl); all_goals (intro hc; (try simp only [reduceCtorEq, bD, beq_iff_eq] at hc); (try (exfalso; omega)))) | ((first | with_reducible (first | refine am_reg ?_ | refine am_skip ?_ | refine am_exit ?_ | refine am_ret ?_ | refine vc_intro ?_ | refine need_elems (by assumption) ?_ | refine vlen_acc (by assumption) ?_ | refine need_bytes (by assumption) ?_ | refine need_lk ?_) | ((with_reducible refine alloc_intro (fun ko hko => ?_)) <;> (try have hne := fresh_ne (by assumption) hko) <;> (try have hnk := fresh_ne hk hko) <;> (try have hnk2 := fresh_ne hk2 hko) <;> (try simp only [AH.put_none] at hko)) | done) <;> (try simp -implicitDefEqProofs (disch := omega) only [go_sem, true_or, or_true, true_and])))
    all_goals exact ⟨_, rfl, _, hko, rfl, rfl⟩
theorem mE_keys (es : List (List UInt8 × Vl)) : (mE es).map Prod.fst = (es.map Prod.fst).map V.str := by simp [mE]
theorem sortedM {g kb : Nat} {es : List (List UInt8 × Vl)} (ho : (Vl.map es).Ok) {H : AH} (hg : H g = some .nodr) (hkb : H kb = none) :
    ACalls Try.prog 68 [.func (.func 79) [] [.ptr kb 0]] (H.put kb (.cells [.mapv (mE es)])) (fun o H' => o = .ret (.sl 1 (strE (kys es)) .no) ∧ H' = H.put kb (.cells [.mapv (mE es)])) := by
  cases ho with
  | map _ o1 o2 o3 o4 =>
    refine sorted_calls (look_put hg hkb) (AH.put_same _ _ _) (mE_keys es) o2 (fun k hk => ?_) (by rw [List.length_map]; omega)
    obtain ⟨p, hp, rfl⟩ := List.mem_map.1 hk
    exact o3 p hp
theorem keys_calls {g : Nat} {v : Vl} (ho : v.Ok) {H : AH} (hg : H g = some .nodr) : ACalls Try.prog 51 [.agg [vV v]] H (fun o H' => o = .ret (.sl 1 (strE v.keys) .no) ∧ H' = H) := by
  refine ACalls.drop ?_
  refine acalls Try.func51 c51 r51 (by simp [Try.ntmps51]) ?_
  by_cases hm : ∃ es, v = .map es
  · obtain ⟨es, rfl⟩ := hm
    rw [vV_map]
    repeat' (first | ((with_reducible refine call_ex (mkeys_calls (.inr ⟨_, rfl⟩) _) (fun v H2 hr => ?_)); obtain ⟨kb, hkb, rfl, rfl⟩ := hr) | with_reducible (first | refine am_seq ?_ | refine am_block ?_) | ((with_reducible apply am_cond); (case hb => rfl); all_goals (intro hc; (try simp only [reduceCtorEq, bD, beq_iff_eq] at hc); (try (exfalso; omega)))) | ((first | with_reducible (first | refine am_reg ?_ | refine am_skip ?_ | refine am_exit ?_ | refine am_ret ?_ | refine vc_intro ?_ | refine need_elems (by assumption) ?_ | refine vlen_acc (by assumption) ?_ | refine need_bytes (by assumption) ?_ | refine call_turn (sortedM ho hg hkb) ?_ | refine need_lk ?_) | ((with_reducible refine alloc_intro (fun ko hko => ?_)) <;> (try have hne := fresh_ne (by assumption) hko) <;> (try have hnk := fresh_ne hk hko) <;> (try have hnk2 := fresh_ne hk2 hko) <;> (try simp only [AH.put_none] at hko)) | done) <;> (try simp -implicitDefEqProofs (disch := omega) only [go_sem, true_or, or_true, true_and])))
    all_goals (simp only [Vl.keys]; exact drop_end (fun s y h => h) (AH.le_put (AH.le_refl _) hkb _))
  · have hk : v.keys = [] := by cases v <;> first | rfl | exact absurd ⟨_, rfl⟩ hm
    rw [hk]
    cases v
    case map es => exact absurd ⟨_, rfl⟩ hm
    all_goals simp only [vV_nul, vV_unk, vV_bool, vV_int, vV_pt, vV_text, vV_list, vV_map]
    repeat' (first | ((with_reducible refine call_ex (mkeys_calls (.inl rfl) _) (fun v H2 hr => ?_)); obtain ⟨kb, hkb, rfl, rfl⟩ := hr) | with_reducible (first | refine am_seq ?_ | refine am_block ?_) | ((with_reducible apply am_cond); (case hb => rfl); all_goals (intro hc; (try simp only [reduceCtorEq, bD, beq_iff_eq] at hc); (try (exfalso; omega)))) | ((first | with_reducible (first | refine am_reg ?_ | refine am_skip ?_ | refine am_exit ?_ | refine am_ret ?_ | refine vc_intro ?_ | refine need_elems (by assumption) ?_ | refine vlen_acc (by assumption) ?_ | refine need_bytes (by assumption) ?_ | refine call_turn (sorted_nil_calls (look_put hg hkb) (AH.put_same _ _ _)) ?_ | refine need_lk ?_) | ((with_reducible refine alloc_intro (fun ko hko => ?_)) <;> (try have hne := fresh_ne (by assumption) hko) <;> (try have hnk := fresh_ne hk hko) <;> (try have hnk2 := fresh_ne hk2 hko) <;> (try simp only [AH.put_none] at hko)) | done) <;> (try simp -implicitDefEqProofs (disch := omega) only [go_sem, true_or, or_true, true_and])))
    all_goals (exact drop_end (fun s y h => h) (AH.le_put (AH.le_refl _) hkb _))
end Go.Proofs.Ytoicninkfmfnbaa
namespace Go.Proofs.Ytoicninkfmfnbaa
open Go.Vm Go.Sort
attribute [local go_sem] eq_self decide_true decide_false AH.put_ne
attribute [local go_sem_proc] Nat.reduceBEq Nat.reduceAdd Nat.reduceSub Nat.reduceMul Nat.reduceEqDiff Nat.reduceLeDiff Nat.reduceLT Int.reduceLE Int.reduceLT Int.reduceToNat Int.reduceAdd Int.reduceEq Int.reduceNeg
attribute [local go_sem] List.drop_zero toNat_succ Nat.sub_zero Int.toNat_natCast Option.map_some Int.natCast_nonneg decide_eq_true_eq decide_eq_false_iff_not
/- (flange/value.Value).Items -/
abbrev k50_0 : MC :=
 .cond (.t 16) ((.seq (.reg [
 ⟨some 17, none, .val (.mv (.t 3))⟩,
 ⟨some 18, none, .call 67 [(.t 17)]⟩,
 ⟨some 2, none, .val (.mv (.t 18))⟩] [2]) (.ret))) (.skip)
abbrev k50_1 : MC :=
 (.seq (.reg [
 ⟨some 16, none, .val (.mv (.t 4))⟩] [1, 3, 16]) k50_0)
abbrev k50_2 : MC :=
 .reg [
 ⟨some 32, none, .val (.mv (.t 5))⟩,
 ⟨some 33, none, .val (.mv (.t 6))⟩,
 ⟨some 34, none, .val (.mv (.t 9))⟩,
 ⟨some 35, none, .val (.yo (.look .str (.agg [.nilIface]) false) [(.t 33), (.t 34)])⟩,
 ⟨some 36, none, .bslice 1 1 [.nilIface] [(0, 1, (.t 35))]⟩,
 ⟨some 37, none, .app 1 16 (.t 32) (.t 36)⟩,
 ⟨some 5, none, .val (.mv (.t 37))⟩] [5, 6, 26, 27, 28]
abbrev k50_3 : MC :=
 .reg [
 ⟨some 38, none, .val (.bin .add .num (.t 28) (.c (.int .i64 1)))⟩,
 ⟨some 28, none, .val (.mv (.t 38))⟩] [5, 6, 26, 27, 28]
abbrev k50_4 : MC :=
 (.seq (.block 1 ((.seq (.reg [
 ⟨some 30, none, .val (.iaddr 1 (.t 26) (.t 28))⟩,
 ⟨some 31, none, .val (.load false 1 (.t 30))⟩,
 ⟨some 9, none, .val (.mv (.t 31))⟩] [5, 6, 9, 26, 27, 28]) k50_2))) k50_3)
abbrev k50_5 : MC :=
 (.seq (.cond (.t 29) (.skip) (.exit 0)) k50_4)
abbrev k50_6 : MC :=
 (.seq (.reg [
 ⟨some 29, none, .val (.bin .lss .num (.t 28) (.t 27))⟩] [5, 6, 26, 27, 28, 29]) k50_5)
abbrev k50_7 : MC :=
 .block 0 (.loop k50_6)
abbrev k50_8 : MC :=
 (.seq (.reg [
 ⟨some 39, none, .val (.mv (.t 5))⟩,
 ⟨some 2, none, .val (.mv (.t 39))⟩] [2]) (.ret))
abbrev k50_9 : MC :=
 (.seq ((.seq (.reg [
 ⟨some 25, none, .val (.load true 1 (.t 1))⟩,
 ⟨some 26, none, .call 51 [(.t 25)]⟩,
 ⟨some 27, none, .val (.len .sl (.t 26))⟩,
 ⟨some 28, none, .val (.mv (.c (.int .i64 0)))⟩] [5, 6, 26, 27, 28]) k50_7)) k50_8)
abbrev k50_10 : MC :=
 (.seq (.reg [
 ⟨some 20, none, .val (.faddr 0 (.t 1))⟩,
 ⟨some 21, none, .val (.load false 1 (.t 20))⟩,
 ⟨some 22, none, .val (.tya 60 true .nilMap (.t 21))⟩,
 ⟨some 19, none, .val (.mv (.t 22))⟩,
 ⟨some 23, none, .val (.ext (.t 19) 0)⟩,
 ⟨some 24, none, .val (.ext (.t 19) 1)⟩,
 ⟨some 6, none, .val (.mv (.t 23))⟩,
 ⟨some 7, none, .val (.mv (.t 24))⟩] [1, 5, 6]) k50_9)
abbrev k50_11 : MC :=
 (.seq (.reg [
 ⟨some 5, none, .val (.mv (.c .nilSl))⟩] [1, 5]) k50_10)
abbrev k50_12 : MC :=
 (.seq ((.seq (.reg [
 ⟨some 11, none, .val (.faddr 0 (.t 1))⟩,
 ⟨some 12, none, .val (.load false 1 (.t 11))⟩,
 ⟨some 13, none, .val (.tya 58 true .nilSl (.t 12))⟩,
 ⟨some 10, none, .val (.mv (.t 13))⟩,
 ⟨some 14, none, .val (.ext (.t 10) 0)⟩,
 ⟨some 15, none, .val (.ext (.t 10) 1)⟩,
 ⟨some 3, none, .val (.mv (.t 14))⟩,
 ⟨some 4, none, .val (.mv (.t 15))⟩] [1, 3, 4]) k50_1)) k50_11)
abbrev k50 : MC :=
 (.seq (.reg [
 ⟨some 1, none, .boxi (.t 0)⟩,
 ⟨some 2, none, .val (.mv (.c .nilSl))⟩] [1]) k50_12)
theorem c50 : Try.f50.body.bind (mcOf Try.prog (List.contains [1] ·) (List.getD [([], [1]), ([], [1, 3, 4]), ([], [1, 3, 16]), ([], [2]), ([], [1, 5]), ([], [1, 5, 6]), ([], [5, 6, 26, 27, 28]), ([], [5, 6, 26, 27, 28, 29]), ([], [5, 6, 9, 26, 27, 28]), ([], [5, 6, 26, 27, 28]), ([], [5, 6, 26, 27, 28]), ([], [2])] · ([], [])) 40) = some k50 := by kernel_rfl
theorem r50 : rvsOf Try.prog Try.f50.results.toList = some [.tmp 2] := by kernel_rfl
/- slices.Clone[[]flange/value.Value,flange/value.Value] -/
abbrev k59_0 : MC :=
 .cond (.t 4) ((.seq (.reg [
 ⟨some 2, none, .val (.mv (.c .nilSl))⟩] [2]) (.ret))) (.skip)
abbrev k59_1 : MC :=
 (.seq (.reg [
 ⟨some 5, none, .bslice 1 0 [] []⟩,
 ⟨some 6, none, .val (.mv (.t 0))⟩,
 ⟨some 7, none, .app 1 16 (.t 5) (.t 6)⟩,
 ⟨some 2, none, .val (.mv (.t 7))⟩] [2]) (.ret))
abbrev k59_2 : MC :=
 (.seq ((.seq (.reg [
 ⟨some 3, none, .val (.mv (.t 0))⟩,
 ⟨some 4, none, .isnil false (.t 3)⟩] [0, 4]) k59_0)) k59_1)
abbrev k59 : MC :=
 (.seq (.reg [
 ⟨some 2, none, .val (.mv (.c .nilSl))⟩] [0]) k59_2)
theorem c59 : Try.f59.body.bind (mcOf Try.prog (List.contains [] ·) (List.getD [([], [0]), ([], [0, 4]), ([], [2]), ([], [2])] · ([], [])) 8) = some k59 := by kernel_rfl
theorem r59 : rvsOf Try.prog Try.f59.results.toList = some [.tmp 2] := by kernel_rfl
/- slices.Clone[flange/value.list,flange/value.Value] -/
abbrev k67_0 : MC :=
 .cond (.t 4) ((.seq (.reg [
 ⟨some 2, none, .val (.mv (.c .nilSl))⟩] [2]) (.ret))) (.skip)
abbrev k67_1 : MC :=
 (.seq (.reg [
 ⟨some 5, none, .bslice 1 0 [] []⟩,
 ⟨some 6, none, .val (.mv (.t 0))⟩,
 ⟨some 7, none, .app 1 16 (.t 5) (.t 6)⟩,
 ⟨some 2, none, .val (.mv (.t 7))⟩] [2]) (.ret))
abbrev k67_2 : MC :=
 (.seq ((.seq (.reg [
 ⟨some 3, none, .val (.mv (.t 0))⟩,
 ⟨some 4, none, .isnil false (.t 3)⟩] [0, 4]) k67_0)) k67_1)
abbrev k67 : MC :=
 (.seq (.reg [
 ⟨some 2, none, .val (.mv (.c .nilSl))⟩] [0]) k67_2)
theorem c67 : Try.f67.body.bind (mcOf Try.prog (List.contains [] ·) (List.getD [([], [0]), ([], [0, 4]), ([], [2]), ([], [2])] · ([], [])) 8) = some k67 := by kernel_rfl
theorem r67 : rvsOf Try.prog Try.f67.results.toList = some [.tmp 2] := by kernel_rfl
/- flange/value.List -/
abbrev k30_0 : MC :=
 (.seq (.reg [
 ⟨some 3, none, .val (.mv (.t 0))⟩,
 ⟨some 4, none, .call 59 [(.t 3)]⟩,
 ⟨some 5, none, .val (.mkif 58 (.t 4))⟩,
 ⟨some 6, none, .build [.nilIface] [(0, 1, (.t 5))]⟩,
 ⟨none, none, .store 1 (.t 2) (.t 6)⟩] [2]) (.ret))
abbrev k30 : MC :=
 (.seq (.reg [
 ⟨some 2, none, .zalloc [.nilIface]⟩] [0, 2]) k30_0)
theorem c30 : Try.f30.body.bind (mcOf Try.prog (List.contains [] ·) (List.getD [([], [0, 2]), ([], [2])] · ([], [])) 7) = some k30 := by kernel_rfl
theorem r30 : rvsOf Try.prog Try.f30.results.toList = some [.cell 2 true 1] := by kernel_rfl
theorem clone_calls {l : List Vl} {t : Tok} (hl : l.length * 16 ≤ 140000000000000) (H : AH) : ACalls Try.prog 59 [.sl 1 (vE l) t] H (fun o H' => o = .ret (.sl 1 (vE l) .no) ∧ H' = H) := by
  refine ACalls.drop ?_
  refine acalls Try.func59 c59 r59 (by simp [Try.ntmps59]) ?_
  repeat' (first | with_reducible (first | refine am_seq ?_ | refine am_block ?_) | ((with_reducible apply am_cond); (case hb => rfl); all_goals (intro hc; (try simp only [reduceCtorEq, bD, beq_iff_eq] at hc); (try (exfalso; omega)))) | ((first | with_reducible (first | refine am_reg ?_ | refine am_skip ?_ | refine am_exit ?_ | refine am_ret ?_ | refine vc_intro ?_ | refine isnE_of (fun hc => ?_) (fun hc => ?_) (fun hc => ?_) | refine need_elems (by assumption) ?_ | refine vlen_acc (by assumption) ?_ | refine need_bytes (by assumption) ?_ | refine need_lk ?_) | ((with_reducible refine alloc_intro (fun ko hko => ?_)) <;> (try have hne := fresh_ne (by assumption) hko) <;> (try have hnk := fresh_ne hk hko) <;> (try have hnk2 := fresh_ne hk2 hko) <;> (try simp only [AH.put_none] at hko)) | ((with_reducible (first | refine vapp_accL (by assumption) ?_ (fun v2 H2 hacc hlec => ?_) | refine vapp_accL (AccP.mono (by assumption) (AccP.le (by assumption))) ?_ (fun v2 H2 hacc hlec => ?_) | refine vapp_accL (AccP.new (by assumption) (by assumption) _) ?_ (fun v2 H2 hacc hlec => ?_))); · simp only [byteCells_length, List.length_cons, List.length_nil, List.length_map, List.length_append, vE_length, mE_length, strE_len, List.length_take]; omega) | done) <;> (try simp -implicitDefEqProofs (disch := omega) only [go_sem, vE_length])))
  · rename_i he; rw [he]; exact drop_end (fun s y h => nil_no _ h) (AH.le_refl _)
  all_goals exact drop_end (fun s y h => by rw [List.nil_append] at h; exact no_sub _ h) (AH.le_put (AH.le_refl _) hko _)
theorem clonel_calls {l : List Vl} {t : Tok} (hl : l.length * 16 ≤ 140000000000000) (H : AH) : ACalls Try.prog 67 [.sl 1 (vE l) t] H (fun o H' => o = .ret (.sl 1 (vE l) .no) ∧ H' = H) := by
  refine ACalls.drop ?_
  refine acalls Try.func67 c67 r67 (by simp [Try.ntmps67]) ?_
  repeat' (first | with_reducible (first | refine am_seq ?_ | refine am_block ?_) | ((with_reducible apply am_cond); (case hb => rfl); all_goals (intro hc; (try simp only [reduceCtorEq, bD, beq_iff_eq] at hc); (try (exfalso; omega)))) | ((first | with_reducible (first | refine am_reg ?_ | refine am_skip ?_ | refine am_exit ?_ | refine am_ret ?_ | refine vc_intro ?_ | refine isnE_of (fun hc => ?_) (fun hc => ?_) (fun hc => ?_) | refine need_elems (by assumption) ?_ | refine vlen_acc (by assumption) ?_ | refine need_bytes (by assumption) ?_ | refine need_lk ?_) | ((with_reducible refine alloc_intro (fun ko hko => ?_)) <;> (try have hne := fresh_ne (by assumption) hko) <;> (try have hnk := fresh_ne hk hko) <;> (try have hnk2 := fresh_ne hk2 hko) <;> (try simp only [AH.put_none] at hko)) | ((with_reducible (first | refine vapp_accL (by assumption) ?_ (fun v2 H2 hacc hlec => ?_) | refine vapp_accL (AccP.mono (by assumption) (AccP.le (by assumption))) ?_ (fun v2 H2 hacc hlec => ?_) | refine vapp_accL (AccP.new (by assumption) (by assumption) _) ?_ (fun v2 H2 hacc hlec => ?_))); · simp only [byteCells_length, List.length_cons, List.length_nil, List.length_map, List.length_append, vE_length, mE_length, strE_len, List.length_take]; omega) | done) <;> (try simp -implicitDefEqProofs (disch := omega) only [go_sem, vE_length])))
  · rename_i he; rw [he]; exact drop_end (fun s y h => nil_no _ h) (AH.le_refl _)
  all_goals exact drop_end (fun s y h => by rw [List.nil_append] at h; exact no_sub _ h) (AH.le_put (AH.le_refl _) hko _)
theorem list_calls {l : List Vl} {t : Tok} (hl : l.length * 16 ≤ 140000000000000) (H : AH) : ACalls Try.prog 30 [.sl 1 (vE l) t] H (fun o H' => o = .ret (.agg [vV (.list l)]) ∧ H' = H) := by
  refine ACalls.drop ?_
  rw [vV_list]
  refine acalls Try.func30 c30 r30 (by simp [Try.ntmps30]) ?_
  repeat' (first | with_reducible (first | refine am_seq ?_ | refine am_block ?_) | ((with_reducible apply am_cond); (case hb => rfl); all_goals (intro hc; (try simp only [reduceCtorEq, bD, beq_iff_eq] at hc); (try (exfalso; omega)))) | ((first | with_reducible (first | refine am_reg ?_ | refine am_skip ?_ | refine am_exit ?_ | refine am_ret ?_ | refine vc_intro ?_ | refine need_elems (by assumption) ?_ | refine vlen_acc (by assumption) ?_ | refine need_bytes (by assumption) ?_ | refine call_of (clone_calls hl) ?_ | refine qcall_of (clone_calls hl) ?_ | refine need_lk ?_) | ((with_reducible refine alloc_intro (fun ko hko => ?_)) <;> (try have hne := fresh_ne (by assumption) hko) <;> (try have hnk := fresh_ne hk hko) <;> (try have hnk2 := fresh_ne hk2 hko) <;> (try simp only [AH.put_none] at hko)) | done) <;> (try simp -implicitDefEqProofs (disch := omega) only [go_sem, vE_length])))
  all_goals (refine drop_end (by (first | exact fun _ _ h => h | (intro s x h; first | exact no_sub _ h | exact nil_no _ h | exact AccP.sub (by assumption) _ _ h | (refine agg_sub rfl ?_ x h; repeat (first | exact .nil | refine .cons (fun _ h => h) ?_ | refine .cons (fun _ h => nil_no _ h) ?_ | refine .cons (fun _ h => no_sub _ h) ?_ | refine .cons (fun _ h => AccP.sub (by assumption) _ _ h) ?_)) | (refine tuple_sub ?_ x h; repeat (first | exact .nil | refine .cons (fun _ h => h) ?_ | refine .cons (fun _ h => nil_no _ h) ?_ | refine .cons (fun _ h => no_sub _ h) ?_ | refine .cons (fun _ h => AccP.sub (by assumption) _ _ h) ?_ | refine .cons (fun _ h => agg_sub rfl (by repeat (first | exact .nil | refine .cons (fun _ h => h) ?_ | refine .cons (fun _ h => nil_no _ h) ?_ | refine .cons (fun _ h => no_sub _ h) ?_ | refine .cons (fun _ h => AccP.sub (by assumption) _ _ h) ?_)) _ h) ?_))))) (by (repeat (first | exact AH.le_refl _ | assumption | exact AccP.le (by assumption) | refine AH.le_put ?_ (by first | assumption | exact none_of_le (by assumption) (by assumption) | exact And.right (by assumption) | exact And.right (And.right (by assumption))) _ | refine AH.le_trans ?_ (AccP.le (by assumption))))))
theorem iface_sub {s : St} {t : Nat} {v u : V} (h : ∀ x, s.val v x → s.val u x) (x : Value) (hx : s.val (.iface t v) x) : s.val (.iface t u) x := by
  cases hx with
  | iface _ _ y h1 => exact .iface _ _ _ (h _ h1)
theorem nil_vE : V.sl 1 (vE []) .no = .sl 1 [] .no := rfl
def look (es : List (List UInt8 × Vl)) (k : List UInt8) : Vl := (fnd k es).getD .nul
def Vl.items : Vl → List Vl
  | .list l => l
  | .map es => (kys es).map (look es)
  | _ => []
theorem kys_length (es : List (List UInt8 × Vl)) : (kys es).length = es.length := by rw [kys, List.length_mergeSort, List.length_map]
theorem strE_get {l : List (List UInt8)} {i : Nat} (h : i < l.length) : (strE l)[i]? = some [.str l[i]] := by simp [strE, h]
theorem mres_look (es : List (List UInt8 × Vl)) (k : List UInt8) : mres false (.agg [.nilIface]) ((fnd k es).map fun x => V.agg [vV x]) = .agg [vV (look es k)] := by
  unfold look
  cases fnd k es with
  | none => rw [Option.map_none, Option.getD_none, vV_nul]; rfl
  | some x => rfl
theorem items_calls {g : Nat} {v : Vl} (ho : v.Ok) {H : AH} (hg : H g = some .nodr) : ACalls Try.prog 50 [.agg [vV v]] H (fun o H' => o = .ret (.sl 1 (vE v.items) .no) ∧ H' = H) := by
  refine ACalls.drop ?_
  refine acalls Try.func50 c50 r50 (by simp [Try.ntmps50]) ?_
  by_cases hm : ∃ es, v = .map es
  · obtain ⟨es, rfl⟩ := hm
    have hk := fun H hg => keys_calls (g := g) ho (H := H) hg
    simp only [Vl.keys] at hk
    rw [vV_map] at hk ⊢
    have hkl := kys_length es
    have hb : es.length * 16 ≤ 100000000000000 := by cases ho; assumption
    repeat' (first | with_reducible (first | refine am_seq ?_ | refine am_block ?_) | ((with_reducible apply am_cond); (case hb => rfl); all_goals (intro hc; (try simp only [reduceCtorEq, bD, beq_iff_eq] at hc); (try (exfalso; omega)))) | ((first | with_reducible (first | refine am_reg ?_ | refine am_skip ?_ | refine am_exit ?_ | refine am_ret ?_ | refine vc_intro ?_ | refine need_elems (by assumption) ?_ | refine vlen_acc (by assumption) ?_ | refine need_bytes (by assumption) ?_ | refine call_turn (hk _ hg) ?_ | refine need_lk ?_) | ((with_reducible refine alloc_intro (fun ko hko => ?_)) <;> (try have hne := fresh_ne (by assumption) hko) <;> (try have hnk := fresh_ne hk hko) <;> (try have hnk2 := fresh_ne hk2 hko) <;> (try simp only [AH.put_none] at hko)) | ((with_reducible (first | refine vapp_accL (by assumption) ?_ (fun v2 H2 hacc hlec => ?_) | refine vapp_accL (AccP.mono (by assumption) (AccP.le (by assumption))) ?_ (fun v2 H2 hacc hlec => ?_) | refine vapp_accL (AccP.new (by assumption) (by assumption) _) ?_ (fun v2 H2 hacc hlec => ?_))); · simp only [byteCells_length, List.length_cons, List.length_nil, List.length_map, List.length_append, vE_length, mE_length, strE_len, List.length_take]; omega) | done) <;> (try simp -implicitDefEqProofs (disch := omega) only [go_sem, true_or, or_true, true_and, strE_len])))
    refine am_loop (fun n a H' => ∃ (i : Nat) (v : V), i + n = (kys es).length ∧ a = [(5, v), (6, .mapv (mE es)), (26, .sl 1 (strE (kys es)) .no), (27, .int .i64 (kys es).length), (28, .int .i64 i)] ∧ AccP H 1 (vE (((kys es).take i).map (look es))) v H') ?_ (kys es).length ⟨0, .nilSl, by omega, rfl, AH.le_refl _, .inl ⟨rfl, rfl⟩⟩
    rintro n a H' ⟨i, v, hi, rfl, hacc⟩
    by_cases hlt : i < (kys es).length
    · have e : vE (((kys es).take i).map (look es)) ++ [[vV (look es (kys es)[i])]] = vE (((kys es).take (i + 1)).map (look es)) := by
        rw [List.take_succ_eq_append_getElem hlt, List.map_append, ← vE_app]; rfl
      repeat' (first | with_reducible (first | refine am_seq ?_ | refine am_block ?_) | ((with_reducible apply am_cond); (case hb => rfl); all_goals (intro hc; (try simp only [reduceCtorEq, bD, beq_iff_eq] at hc); (try (exfalso; omega)))) | ((first | with_reducible (first | refine am_reg ?_ | refine am_skip ?_ | refine am_exit ?_ | refine am_ret ?_ | refine vc_intro ?_ | refine need_elems (by assumption) ?_ | refine vlen_acc (by assumption) ?_ | refine need_bytes (by assumption) ?_ | refine need_lk ?_) | ((with_reducible refine alloc_intro (fun ko hko => ?_)) <;> (try have hne := fresh_ne (by assumption) hko) <;> (try have hnk := fresh_ne hk hko) <;> (try have hnk2 := fresh_ne hk2 hko) <;> (try simp only [AH.put_none] at hko)) | ((with_reducible (first | refine vapp_accL (by assumption) ?_ (fun v2 H2 hacc hlec => ?_) | refine vapp_accL (AccP.mono (by assumption) (AccP.le (by assumption))) ?_ (fun v2 H2 hacc hlec => ?_) | refine vapp_accL (AccP.new (by assumption) (by assumption) _) ?_ (fun v2 H2 hacc hlec => ?_))); · simp only [byteCells_length, List.length_cons, List.length_nil, List.length_map, List.length_append, vE_length, mE_length, strE_len, List.length_take]; omega) | done) <;> (try simp -implicitDefEqProofs (disch := omega) only [go_sem, wrap_id, strE_len, strE_get hlt, mE_find, mres_look])))
      all_goals exact ⟨n - 1, by omega, i + 1, _, by omega, rfl, by rw [← e]; exact hacc⟩
    · have e : ((kys es).take i).map (look es) = (Vl.map es).items := by rw [List.take_of_length_le (by omega)]; rfl
      rw [e] at hacc
      repeat' (first | with_reducible (first | refine am_seq ?_ | refine am_block ?_) | ((with_reducible apply am_cond); (case hb => rfl); all_goals (intro hc; (try simp only [reduceCtorEq, bD, beq_iff_eq] at hc); (try (exfalso; omega)))) | ((first | with_reducible (first | refine am_reg ?_ | refine am_skip ?_ | refine am_exit ?_ | refine am_ret ?_ | refine vc_intro ?_ | refine need_elems (by assumption) ?_ | refine vlen_acc (by assumption) ?_ | refine need_bytes (by assumption) ?_ | refine need_lk ?_) | ((with_reducible refine alloc_intro (fun ko hko => ?_)) <;> (try have hne := fresh_ne (by assumption) hko) <;> (try have hnk := fresh_ne hk hko) <;> (try have hnk2 := fresh_ne hk2 hko) <;> (try simp only [AH.put_none] at hko)) | ((with_reducible (first | refine vapp_accL (by assumption) ?_ (fun v2 H2 hacc hlec => ?_) | refine vapp_accL (AccP.mono (by assumption) (AccP.le (by assumption))) ?_ (fun v2 H2 hacc hlec => ?_) | refine vapp_accL (AccP.new (by assumption) (by assumption) _) ?_ (fun v2 H2 hacc hlec => ?_))); · simp only [byteCells_length, List.length_cons, List.length_nil, List.length_map, List.length_append, vE_length, mE_length, strE_len, List.length_take]; omega) | done) <;> (try simp -implicitDefEqProofs (disch := omega) only [go_sem, wrap_id, strE_len])))
      all_goals (refine drop_end (by (first | exact fun _ _ h => h | (intro s x h; first | exact no_sub _ h | exact nil_no _ h | exact AccP.sub (by assumption) _ _ h | (refine agg_sub rfl ?_ x h; repeat (first | exact .nil | refine .cons (fun _ h => h) ?_ | refine .cons (fun _ h => nil_no _ h) ?_ | refine .cons (fun _ h => no_sub _ h) ?_ | refine .cons (fun _ h => AccP.sub (by assumption) _ _ h) ?_)) | (refine tuple_sub ?_ x h; repeat (first | exact .nil | refine .cons (fun _ h => h) ?_ | refine .cons (fun _ h => nil_no _ h) ?_ | refine .cons (fun _ h => no_sub _ h) ?_ | refine .cons (fun _ h => AccP.sub (by assumption) _ _ h) ?_ | refine .cons (fun _ h => agg_sub rfl (by repeat (first | exact .nil | refine .cons (fun _ h => h) ?_ | refine .cons (fun _ h => nil_no _ h) ?_ | refine .cons (fun _ h => no_sub _ h) ?_ | refine .cons (fun _ h => AccP.sub (by assumption) _ _ h) ?_)) _ h) ?_))))) (by (repeat (first | exact AH.le_refl _ | assumption | exact AccP.le (by assumption) | refine AH.le_put ?_ (by first | assumption | exact none_of_le (by assumption) (by assumption) | exact And.right (by assumption) | exact And.right (And.right (by assumption))) _ | refine AH.le_trans ?_ (AccP.le (by assumption))))))
  · by_cases hm2 : ∃ l, v = .list l
    · obtain ⟨l, rfl⟩ := hm2
      have hl : l.length * 16 ≤ 140000000000000 := by cases ho; omega
      rw [vV_list]
      repeat' (first | with_reducible (first | refine am_seq ?_ | refine am_block ?_) | ((with_reducible apply am_cond); (case hb => rfl); all_goals (intro hc; (try simp only [reduceCtorEq, bD, beq_iff_eq] at hc); (try (exfalso; omega)))) | ((first | with_reducible (first | refine am_reg ?_ | refine am_skip ?_ | refine am_exit ?_ | refine am_ret ?_ | refine vc_intro ?_ | refine need_elems (by assumption) ?_ | refine vlen_acc (by assumption) ?_ | refine need_bytes (by assumption) ?_ | refine call_of (clonel_calls hl) ?_ | refine qcall_of (clonel_calls hl) ?_ | refine need_lk ?_) | ((with_reducible refine alloc_intro (fun ko hko => ?_)) <;> (try have hne := fresh_ne (by assumption) hko) <;> (try have hnk := fresh_ne hk hko) <;> (try have hnk2 := fresh_ne hk2 hko) <;> (try simp only [AH.put_none] at hko)) | ((with_reducible (first | refine vapp_accL (by assumption) ?_ (fun v2 H2 hacc hlec => ?_) | refine vapp_accL (AccP.mono (by assumption) (AccP.le (by assumption))) ?_ (fun v2 H2 hacc hlec => ?_) | refine vapp_accL (AccP.new (by assumption) (by assumption) _) ?_ (fun v2 H2 hacc hlec => ?_))); · simp only [byteCells_length, List.length_cons, List.length_nil, List.length_map, List.length_append, vE_length, mE_length, strE_len, List.length_take]; omega) | done) <;> (try simp -implicitDefEqProofs (disch := omega) only [go_sem, true_or, or_true, true_and])))
      all_goals (refine drop_end (by (first | exact fun _ _ h => h | (intro s x h; first | exact no_sub _ h | exact nil_no _ h | exact AccP.sub (by assumption) _ _ h | (refine agg_sub rfl ?_ x h; repeat (first | exact .nil | refine .cons (fun _ h => h) ?_ | refine .cons (fun _ h => nil_no _ h) ?_ | refine .cons (fun _ h => no_sub _ h) ?_ | refine .cons (fun _ h => AccP.sub (by assumption) _ _ h) ?_)) | (refine tuple_sub ?_ x h; repeat (first | exact .nil | refine .cons (fun _ h => h) ?_ | refine .cons (fun _ h => nil_no _ h) ?_ | refine .cons (fun _ h => no_sub _ h) ?_ | refine .cons (fun _ h => AccP.sub (by assumption) _ _ h) ?_ | refine .cons (fun _ h => agg_sub rfl (by repeat (first | exact .nil | refine .cons (fun _ h => h) ?_ | refine .cons (fun _ h => nil_no _ h) ?_ | refine .cons (fun _ h => no_sub _ h) ?_ | refine .cons (fun _ h => AccP.sub (by assumption) _ _ h) ?_)) _ h) ?_))))) (by (repeat (first | exact AH.le_refl _ | assumption | exact AccP.le (by assumption) | refine AH.le_put ?_ (by first | assumption | exact none_of_le (by assumption) (by assumption) | exact And.right (by assumption) | exact And.right (And.right (by assumption))) _ | refine AH.le_trans ?_ (AccP.le (by assumption))))))
    · have hk := fun H hg => keys_calls (g := g) ho (H := H) hg
      have hi : v.items = [] := by cases v <;> first | rfl | exact absurd ⟨_, rfl⟩ hm | exact absurd ⟨_, rfl⟩ hm2
      rw [hi, nil_vE]
      cases v
      case map es => exact absurd ⟨_, rfl⟩ hm
      case list es => exact absurd ⟨_, rfl⟩ hm2
      all_goals simp only [vV_nul, vV_unk, vV_bool, vV_int, vV_pt, vV_text, vV_list, vV_map] at hk ⊢
      repeat' (first | with_reducible (first | refine am_seq ?_ | refine am_block ?_) | ((with_reducible apply am_cond); (case hb => rfl); all_goals (intro hc; (try simp only [reduceCtorEq, bD, beq_iff_eq] at hc); (try (exfalso; omega)))) | ((first | with_reducible (first | refine am_reg ?_ | refine am_skip ?_ | refine am_exit ?_ | refine am_ret ?_ | refine vc_intro ?_ | refine need_elems (by assumption) ?_ | refine vlen_acc (by assumption) ?_ | refine need_bytes (by assumption) ?_ | refine call_turn (hk _ hg) ?_ | refine need_lk ?_) | ((with_reducible refine alloc_intro (fun ko hko => ?_)) <;> (try have hne := fresh_ne (by assumption) hko) <;> (try have hnk := fresh_ne hk hko) <;> (try have hnk2 := fresh_ne hk2 hko) <;> (try simp only [AH.put_none] at hko)) | ((with_reducible (first | refine vapp_accL (by assumption) ?_ (fun v2 H2 hacc hlec => ?_) | refine vapp_accL (AccP.mono (by assumption) (AccP.le (by assumption))) ?_ (fun v2 H2 hacc hlec => ?_) | refine vapp_accL (AccP.new (by assumption) (by assumption) _) ?_ (fun v2 H2 hacc hlec => ?_))); · simp only [byteCells_length, List.length_cons, List.length_nil, List.length_map, List.length_append, vE_length, mE_length, strE_len, List.length_take]; omega) | done) <;> (try simp -implicitDefEqProofs (disch := omega) only [go_sem, true_or, or_true, true_and, strE_len, Vl.keys, List.length_nil])))
      all_goals
        refine am_loop (fun n a H' => a = [(5, .nilSl), (6, .nilMap), (26, .sl 1 (strE []) .no), (27, .int .i64 (0 : Nat)), (28, .int .i64 (0 : Nat))] ∧ H' = H) ?_ 0 ⟨rfl, rfl⟩
        rintro n a H' ⟨rfl, rfl⟩
        repeat' (first | with_reducible (first | refine am_seq ?_ | refine am_block ?_) | ((with_reducible apply am_cond); (case hb => rfl); all_goals (intro hc; (try simp only [reduceCtorEq, bD, beq_iff_eq] at hc); (try (exfalso; omega)))) | ((first | with_reducible (first | refine am_reg ?_ | refine am_skip ?_ | refine am_exit ?_ | refine am_ret ?_ | refine vc_intro ?_ | refine need_elems (by assumption) ?_ | refine vlen_acc (by assumption) ?_ | refine need_bytes (by assumption) ?_ | refine need_lk ?_) | ((with_reducible refine alloc_intro (fun ko hko => ?_)) <;> (try have hne := fresh_ne (by assumption) hko) <;> (try have hnk := fresh_ne hk hko) <;> (try have hnk2 := fresh_ne hk2 hko) <;> (try simp only [AH.put_none] at hko)) | ((with_reducible (first | refine vapp_accL (by assumption) ?_ (fun v2 H2 hacc hlec => ?_) | refine vapp_accL (AccP.mono (by assumption) (AccP.le (by assumption))) ?_ (fun v2 H2 hacc hlec => ?_) | refine vapp_accL (AccP.new (by assumption) (by assumption) _) ?_ (fun v2 H2 hacc hlec => ?_))); · simp only [byteCells_length, List.length_cons, List.length_nil, List.length_map, List.length_append, vE_length, mE_length, strE_len, List.length_take]; omega) | done) <;> (try simp -implicitDefEqProofs (disch := omega) only [go_sem, wrap_id])))
        all_goals (refine drop_end (by (first | exact fun _ _ h => h | (intro s x h; first | exact no_sub _ h | exact nil_no _ h | exact AccP.sub (by assumption) _ _ h | (refine agg_sub rfl ?_ x h; repeat (first | exact .nil | refine .cons (fun _ h => h) ?_ | refine .cons (fun _ h => nil_no _ h) ?_ | refine .cons (fun _ h => no_sub _ h) ?_ | refine .cons (fun _ h => AccP.sub (by assumption) _ _ h) ?_)) | (refine tuple_sub ?_ x h; repeat (first | exact .nil | refine .cons (fun _ h => h) ?_ | refine .cons (fun _ h => nil_no _ h) ?_ | refine .cons (fun _ h => no_sub _ h) ?_ | refine .cons (fun _ h => AccP.sub (by assumption) _ _ h) ?_ | refine .cons (fun _ h => agg_sub rfl (by repeat (first | exact .nil | refine .cons (fun _ h => h) ?_ | refine .cons (fun _ h => nil_no _ h) ?_ | refine .cons (fun _ h => no_sub _ h) ?_ | refine .cons (fun _ h => AccP.sub (by assumption) _ _ h) ?_)) _ h) ?_))))) (by (repeat (first | exact AH.le_refl _ | assumption | exact AccP.le (by assumption) | refine AH.le_put ?_ (by first | assumption | exact none_of_le (by assumption) (by assumption) | exact And.right (by assumption) | exact And.right (And.right (by assumption))) _ | refine AH.le_trans ?_ (AccP.le (by assumption))))))
end Go.Proofs.Ytoicninkfmfnbaa
