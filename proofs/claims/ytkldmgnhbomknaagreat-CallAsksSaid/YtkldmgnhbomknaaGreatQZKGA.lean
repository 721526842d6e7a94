/- Contracts of functions of the given program. Conditions: as each theorem says. -/
import Derived.Test.YtkldmgnhbomknaaGreatQZKVK
import Derived.Test.YtkldmgnhbomknaaGreatVmV
set_option linter.unusedVariables false
set_option linter.unusedSimpArgs false
namespace Go.Proofs.YtkldmgnhbomknaaGreat
open Go.Vm Go.Sort
inductive Vl where
  | nul
  | unk
  | bool (b : Bool)
  | int (n : Int)
  | pt (n m : Int)
  | text (s : List UInt8)
  | list (l : List Vl)
  | map (es : List (List UInt8 × Vl))
def fl (n : Int) : Nat := FloatKind.f64.nearest n
def vV : Vl → V
  | .nul => .nilIface
  | .unk => .iface 130 (.agg [])
  | .bool b => .iface 4 (.bool b)
  | .int n => .iface 3 (.int .i64 n)
  | .pt n m => .iface 116 (.complex .f64 (fl n) (fl m))
  | .text s => .iface 9 (.str s)
  | .list l => .iface 119 (.sl 1 (l.map fun x => [vV x]) .no)
  | .map es => .iface 123 (.mapv (es.map fun p => (.str p.1,.agg [vV p.2])))
termination_by v => SizeOf.sizeOf v
decreasing_by
  all_goals first
    | (have := List.sizeOf_lt_of_mem ‹_ ∈ l›; simp only [Vl.list.sizeOf_spec]; omega)
    | (rename_i hm; obtain ⟨a,b⟩ := p; have := List.sizeOf_lt_of_mem (by assumption); simp only [Prod.mk.sizeOf_spec,Vl.map.sizeOf_spec] at this ⊢; omega)
def vE (l : List Vl) : List (List V) := l.map fun x => [vV x]
def mE (es : List (List UInt8 × Vl)) : List (V × V) := es.map fun p => (.str p.1,.agg [vV p.2])
theorem vV_nul : vV .nul = .nilIface := by rw [vV]
theorem vV_unk : vV .unk = .iface 130 (.agg []) := by rw [vV]
theorem vV_bool (b : Bool) : vV (.bool b) = .iface 4 (.bool b) := by rw [vV]
theorem vV_int (n : Int) : vV (.int n) = .iface 3 (.int .i64 n) := by rw [vV]
theorem vV_pt (n m : Int) : vV (.pt n m) = .iface 116 (.complex .f64 (fl n) (fl m)) := by rw [vV]
theorem vV_text (s : List UInt8) : vV (.text s) = .iface 9 (.str s) := by rw [vV]
theorem vV_list (l : List Vl) : vV (.list l) = .iface 119 (.sl 1 (vE l) .no) := by rw [vV]; rfl
theorem vV_map (es : List (List UInt8 × Vl)) : vV (.map es) = .iface 123 (.mapv (mE es)) := by rw [vV]; rfl
theorem vE_length (l : List Vl) : (vE l).length = l.length := by simp [vE]
theorem mE_length (l : List (List UInt8 × Vl)) : (mE l).length = l.length := by simp [mE]
theorem vE_get {l : List Vl} {i : Nat} (h : i < l.length) : (vE l)[i]? = some [vV l[i]] := by simp [vE,h]
theorem vE_app (a b : List Vl) : vE a ++ vE b = vE (a ++ b) := by simp [vE]
theorem Vl.ind {Q : Vl → Prop} (h0 : Q .nul) (h1 : Q .unk) (h2 : ∀ b,Q (.bool b)) (h3 : ∀ n,Q (.int n)) (h4 : ∀ n m,Q (.pt n m)) (h5 : ∀ s,Q (.text s)) (h6 : ∀ l : List Vl,(∀ x ∈ l,Q x) → Q (.list l)) (h7 : ∀ es : List (List UInt8 × Vl),(∀ p ∈ es,Q p.2) → Q (.map es)) : ∀ v,Q v
  | .nul => h0
  | .unk => h1
  | .bool b => h2 b
  | .int n => h3 n
  | .pt n m => h4 n m
  | .text s => h5 s
  | .list l => h6 l fun x _ => Vl.ind h0 h1 h2 h3 h4 h5 h6 h7 x
  | .map es => h7 es fun p _ => Vl.ind h0 h1 h2 h3 h4 h5 h6 h7 p.2
termination_by v => SizeOf.sizeOf v
decreasing_by
  all_goals first
    | (have := List.sizeOf_lt_of_mem ‹_ ∈ l›; simp only [Vl.list.sizeOf_spec]; omega)
    | (rename_i hm; obtain ⟨a,b⟩ := p; have := List.sizeOf_lt_of_mem (by assumption); simp only [Prod.mk.sizeOf_spec,Vl.map.sizeOf_spec] at this ⊢; omega)
def kys (es : List (List UInt8 × Vl)) : List (List UInt8) := (es.map Prod.fst).mergeSort leB
def fnd (k : List UInt8) : List (List UInt8 × Vl) → Option Vl
  | [] => none
  | p :: es => if p.1 = k then some p.2 else fnd k es
inductive Vl.Ok : Vl → Prop where
  | nul : Vl.Ok .nul
  | unk : Vl.Ok .unk
  | bool b : Vl.Ok (.bool b)
  | int n : Vl.Ok (.int n)
  | pt n m : -9007199254740992 ≤ n → n ≤ 9007199254740992 → -9007199254740992 ≤ m → m ≤ 9007199254740992 → Vl.Ok (.pt n m)
  | text s : Vl.Ok (.text s)
  | list l : l.length * 16 ≤ 100000000000000 → (∀ x ∈ l,Vl.Ok x) → Vl.Ok (.list l)
  | map es : es.length * 16 ≤ 100000000000000 → (es.map Prod.fst).Nodup → (∀ p ∈ es,p.1.length ≤ 9223372036854775807) → (∀ p ∈ es,Vl.Ok p.2) → Vl.Ok (.map es)
def Vl.kind : Vl → Int
  | .nul => 0
  | .unk => 1
  | .bool _ => 2
  | .int _ => 3
  | .pt _ _ => 4
  | .text _ => 5
  | .list _ => 6
  | .map _ => 7
end Go.Proofs.YtkldmgnhbomknaaGreat
namespace Go.Proofs.YtkldmgnhbomknaaGreat
open Go.Vm Go.Sort
attribute [local go_sem] eq_self decide_true decide_false AH.put_ne
attribute [local go_sem_proc] Nat.reduceBEq Nat.reduceAdd Nat.reduceSub Nat.reduceMul Nat.reduceEqDiff Nat.reduceLeDiff Nat.reduceLT Int.reduceLE Int.reduceLT Int.reduceToNat Int.reduceAdd Int.reduceEq Int.reduceNeg
attribute [local go_sem] List.drop_zero toNat_succ Nat.sub_zero Int.toNat_natCast Option.map_some Int.natCast_nonneg decide_eq_true_eq decide_eq_false_iff_not
/- (flange/value.Value).Kind -/
abbrev k38_0 : MC :=
 .cond (.t 24) ((.seq (.reg [
 vl 2 (.mv (.c (.int .i64 7)))] [2]) (.ret))) (.skip)
abbrev k38_1 : MC :=
 .cond (.t 21) ((.seq (.reg [
 vl 2 (.mv (.c (.int .i64 6)))] [2]) (.ret))) ((.seq (.reg [
 vl 23 (.tya 123 true .nilMap (.t 4)),
 vl 24 (.ext (.t 23) 1),
 vl 25 (.ext (.t 23) 0)] [24]) k38_0))
abbrev k38_2 : MC :=
 .cond (.t 18) ((.seq (.reg [
 vl 2 (.mv (.c (.int .i64 5)))] [2]) (.ret))) ((.seq (.reg [
 vl 20 (.tya 119 true .nilSl (.t 4)),
 vl 21 (.ext (.t 20) 1),
 vl 22 (.ext (.t 20) 0)] [4,21]) k38_1))
abbrev k38_3 : MC :=
 .cond (.t 15) ((.seq (.reg [
 vl 2 (.mv (.c (.int .i64 4)))] [2]) (.ret))) ((.seq (.reg [
 vl 17 (.tya 9 true (.str []) (.t 4)),
 vl 18 (.ext (.t 17) 1),
 vl 19 (.ext (.t 17) 0)] [4,18]) k38_2))
abbrev k38_4 : MC :=
 .cond (.t 12) ((.seq (.reg [
 vl 2 (.mv (.c (.int .i64 3)))] [2]) (.ret))) ((.seq (.reg [
 vl 14 (.tya 116 true (.complex .f64 0 0) (.t 4)),
 vl 15 (.ext (.t 14) 1),
 vl 16 (.ext (.t 14) 0)] [4,15]) k38_3))
abbrev k38_5 : MC :=
 .cond (.t 9) ((.seq (.reg [
 vl 2 (.mv (.c (.int .i64 2)))] [2]) (.ret))) ((.seq (.reg [
 vl 11 (.tya 3 true (.int .i64 0) (.t 4)),
 vl 12 (.ext (.t 11) 1),
 vl 13 (.ext (.t 11) 0)] [4,12]) k38_4))
abbrev k38_6 : MC :=
 .cond (.t 6) ((.seq (.reg [
 vl 2 (.mv (.c (.int .i64 1)))] [2]) (.ret))) ((.seq (.reg [
 vl 8 (.tya 4 true (.bool false) (.t 4)),
 vl 9 (.ext (.t 8) 1),
 vl 10 (.ext (.t 8) 0)] [4,9]) k38_5))
abbrev k38_7 : MC :=
 .block 0 ((.seq (.reg [
 vl 5 (.tya 130 true (.agg []) (.t 4)),
 vl 6 (.ext (.t 5) 1),
 vl 7 (.ext (.t 5) 0)] [4,6]) k38_6))
abbrev k38_8 : MC :=
 (.seq (.reg [
 vl 2 (.mv (.c (.int .i64 0)))] [2]) (.ret))
abbrev k38_9 : MC :=
 (.seq ((.seq (.reg [
 vl 3 (.faddr 0 (.t 1)),
 vl 4 (.load false 1 (.t 3))] [4]) k38_7)) k38_8)
abbrev k38 : MC :=
 (.seq (.reg [
 ⟨some 1,none,.boxi (.t 0)⟩,
 vl 2 (.mv (.c (.int .i64 0)))] [1]) k38_9)
theorem c38 : Tryz.f38.body.bind (mcOf Tryz.prog (List.contains [1] ·) (List.getD [([],[1]),([],[4]),([],[4,6]),([],[2]),([],[4,9]),([],[2]),([],[4,12]),([],[2]),([],[4,15]),([],[2]),([],[4,18]),([],[2]),([],[4,21]),([],[2]),([],[24]),([],[2]),([],[2])] · ([],[])) 26) = some k38 := by kernel_rfl
theorem r38 : rvsOf Tryz.prog Tryz.f38.results.toList = some [.tmp 2] := by kernel_rfl
/- (flange/value.Value).Bool -/
abbrev k32_0 : MC :=
 (.seq (.reg [
 mv 12 4,
 mv 13 5,
 mv 2 12,
 mv 3 13] [2,3]) (.ret))
abbrev k32_1 : MC :=
 (.seq (.reg [
 vl 7 (.faddr 0 (.t 1)),
 vl 8 (.load false 1 (.t 7)),
 vl 9 (.tya 4 true (.bool false) (.t 8)),
 mv 6 9,
 vl 10 (.ext (.t 6) 0),
 vl 11 (.ext (.t 6) 1),
 mv 4 10,
 mv 5 11] [4,5]) k32_0)
abbrev k32 : MC :=
 (.seq (.reg [
 ⟨some 1,none,.boxi (.t 0)⟩,
 vl 2 (.mv (.c (.bool false))),
 vl 3 (.mv (.c (.bool false)))] [1]) k32_1)
theorem c32 : Tryz.f32.body.bind (mcOf Tryz.prog (List.contains [1] ·) (List.getD [([],[1]),([],[4,5]),([],[2,3])] · ([],[])) 14) = some k32 := by kernel_rfl
theorem r32 : rvsOf Tryz.prog Tryz.f32.results.toList = some [.tmp 2,.tmp 3] := by kernel_rfl
/- (flange/value.Value).Int -/
abbrev k33_0 : MC :=
 (.seq (.reg [
 mv 12 4,
 mv 13 5,
 mv 2 12,
 mv 3 13] [2,3]) (.ret))
abbrev k33_1 : MC :=
 (.seq (.reg [
 vl 7 (.faddr 0 (.t 1)),
 vl 8 (.load false 1 (.t 7)),
 vl 9 (.tya 3 true (.int .i64 0) (.t 8)),
 mv 6 9,
 vl 10 (.ext (.t 6) 0),
 vl 11 (.ext (.t 6) 1),
 mv 4 10,
 mv 5 11] [4,5]) k33_0)
abbrev k33 : MC :=
 (.seq (.reg [
 ⟨some 1,none,.boxi (.t 0)⟩,
 vl 2 (.mv (.c (.int .i64 0))),
 vl 3 (.mv (.c (.bool false)))] [1]) k33_1)
theorem c33 : Tryz.f33.body.bind (mcOf Tryz.prog (List.contains [1] ·) (List.getD [([],[1]),([],[4,5]),([],[2,3])] · ([],[])) 14) = some k33 := by kernel_rfl
theorem r33 : rvsOf Tryz.prog Tryz.f33.results.toList = some [.tmp 2,.tmp 3] := by kernel_rfl
/- (flange/value.Value).Text -/
abbrev k35_0 : MC :=
 (.seq (.reg [
 mv 12 4,
 mv 13 5,
 mv 2 12,
 mv 3 13] [2,3]) (.ret))
abbrev k35_1 : MC :=
 (.seq (.reg [
 vl 7 (.faddr 0 (.t 1)),
 vl 8 (.load false 1 (.t 7)),
 vl 9 (.tya 9 true (.str []) (.t 8)),
 mv 6 9,
 vl 10 (.ext (.t 6) 0),
 vl 11 (.ext (.t 6) 1),
 mv 4 10,
 mv 5 11] [4,5]) k35_0)
abbrev k35 : MC :=
 (.seq (.reg [
 ⟨some 1,none,.boxi (.t 0)⟩,
 vl 2 (.mv (.c (.str []))),
 vl 3 (.mv (.c (.bool false)))] [1]) k35_1)
theorem c35 : Tryz.f35.body.bind (mcOf Tryz.prog (List.contains [1] ·) (List.getD [([],[1]),([],[4,5]),([],[2,3])] · ([],[])) 14) = some k35 := by kernel_rfl
theorem r35 : rvsOf Tryz.prog Tryz.f35.results.toList = some [.tmp 2,.tmp 3] := by kernel_rfl
/- flange/value.Int -/
abbrev k42_0 : MC :=
 (.seq (.reg [
 mv 3 0,
 vl 4 (.mkif 3 (.t 3)),
 ⟨some 5,none,.build [.nilIface] [(0,1,(.t 4))]⟩,
 ⟨none,none,.store 1 (.t 2) (.t 5)⟩] [2]) (.ret))
abbrev k42 : MC :=
 (.seq (.reg [
 ⟨some 2,none,.zalloc [.nilIface]⟩] [0,2]) k42_0)
theorem c42 : Tryz.f42.body.bind (mcOf Tryz.prog (List.contains [] ·) (List.getD [([],[0,2]),([],[2])] · ([],[])) 6) = some k42 := by kernel_rfl
theorem r42 : rvsOf Tryz.prog Tryz.f42.results.toList = some [.cell 2 true 1] := by kernel_rfl
/- flange/value.Of -/
abbrev k41_0 : MC :=
 (.seq (.reg [
 mv 3 0,
 vl 4 (.mkif 4 (.t 3)),
 ⟨some 5,none,.build [.nilIface] [(0,1,(.t 4))]⟩,
 ⟨none,none,.store 1 (.t 2) (.t 5)⟩] [2]) (.ret))
abbrev k41 : MC :=
 (.seq (.reg [
 ⟨some 2,none,.zalloc [.nilIface]⟩] [0,2]) k41_0)
theorem c41 : Tryz.f41.body.bind (mcOf Tryz.prog (List.contains [] ·) (List.getD [([],[0,2]),([],[2])] · ([],[])) 6) = some k41 := by kernel_rfl
theorem r41 : rvsOf Tryz.prog Tryz.f41.results.toList = some [.cell 2 true 1] := by kernel_rfl
/- flange/value.Text -/
abbrev k44_0 : MC :=
 (.seq (.reg [
 mv 3 0,
 vl 4 (.mkif 9 (.t 3)),
 ⟨some 5,none,.build [.nilIface] [(0,1,(.t 4))]⟩,
 ⟨none,none,.store 1 (.t 2) (.t 5)⟩] [2]) (.ret))
abbrev k44 : MC :=
 (.seq (.reg [
 ⟨some 2,none,.zalloc [.nilIface]⟩] [0,2]) k44_0)
theorem c44 : Tryz.f44.body.bind (mcOf Tryz.prog (List.contains [] ·) (List.getD [([],[0,2]),([],[2])] · ([],[])) 6) = some k44 := by kernel_rfl
theorem r44 : rvsOf Tryz.prog Tryz.f44.results.toList = some [.cell 2 true 1] := by kernel_rfl
/- flange/value.Later -/
abbrev k40_0 : MC :=
 (.seq (.reg [
 ⟨some 1,none,.build [] []⟩,
 vl 2 (.mkif 130 (.t 1)),
 ⟨some 3,none,.build [.nilIface] [(0,1,(.t 2))]⟩,
 ⟨none,none,.store 1 (.t 0) (.t 3)⟩] [0]) (.ret))
abbrev k40 : MC :=
 (.seq (.reg [
 ⟨some 0,none,.zalloc [.nilIface]⟩] [0]) k40_0)
theorem c40 : Tryz.f40.body.bind (mcOf Tryz.prog (List.contains [] ·) (List.getD [([],[0]),([],[0])] · ([],[])) 4) = some k40 := by kernel_rfl
theorem r40 : rvsOf Tryz.prog Tryz.f40.results.toList = some [.cell 0 true 1] := by kernel_rfl
/- flange/value.Unset -/
abbrev k47_0 : MC :=
 (.seq (.reg [
 ⟨some 1,none,.build [.nilIface] []⟩,
 ⟨none,none,.store 1 (.t 0) (.t 1)⟩] [0]) (.ret))
abbrev k47 : MC :=
 (.seq (.reg [
 ⟨some 0,none,.zalloc [.nilIface]⟩] [0]) k47_0)
theorem c47 : Tryz.f47.body.bind (mcOf Tryz.prog (List.contains [] ·) (List.getD [([],[0]),([],[0])] · ([],[])) 2) = some k47 := by kernel_rfl
theorem r47 : rvsOf Tryz.prog Tryz.f47.results.toList = some [.cell 0 true 1] := by kernel_rfl
def Vl.isB : Vl → Bool × Bool
  | .bool b => (b,true)
  | _ => (false,false)
def Vl.isI : Vl → Int × Bool
  | .int n => (n,true)
  | _ => (0,false)
def Vl.isT : Vl → List UInt8 × Bool
  | .text s => (s,true)
  | _ => ([],false)
theorem kind_calls (v : Vl) (H : AH) : ACalls Tryz.prog 38 [.agg [vV v]] H (fun o H' => o = .ret (.int .i64 v.kind) ∧ H' = H) := by
  refine ACalls.drop ?_
  refine acalls Tryz.func38 c38 r38 (by simp [Tryz.ntmps38]) ?_
  cases v
  all_goals simp only [vV_nul,vV_unk,vV_bool,vV_int,vV_pt,vV_text,vV_list,vV_map]
  repeat' (first|with_reducible refine go0 ?_|(with_reducible refine am_cnd ?_ ?_<;>intro hc<;>try (exfalso;omega))|((first|with_reducible (first|refine go1 ?_|refine vc_intro ?_|refine need_el ?_|refine vlen_a ?_|refine need_by ?_|refine need_lk ?_)|((with_reducible refine alloc_intro (fun ko hko=>?_))<;>(try have hne:=fresh_ne (by assumption) hko)<;>(try simp only [AH.put_none] at hko))|done)<;>(try simp -implicitDefEqProofs (disch:=omega) only [go_sem,true_or,or_true,true_and])))
  all_goals exact end_same
theorem bool_calls (v : Vl) (H : AH) : ACalls Tryz.prog 32 [.agg [vV v]] H (fun o H' => o = .ret (.tuple [.bool v.isB.1,.bool v.isB.2]) ∧ H' = H) := by
  refine ACalls.drop ?_
  refine acalls Tryz.func32 c32 r32 (by simp [Tryz.ntmps32]) ?_
  cases v
  all_goals simp only [vV_nul,vV_unk,vV_bool,vV_int,vV_pt,vV_text,vV_list,vV_map]
  repeat' (first|with_reducible refine go0 ?_|(with_reducible refine am_cnd ?_ ?_<;>intro hc<;>try (exfalso;omega))|((first|with_reducible (first|refine go1 ?_|refine vc_intro ?_|refine need_el ?_|refine vlen_a ?_|refine need_by ?_|refine need_lk ?_)|((with_reducible refine alloc_intro (fun ko hko=>?_))<;>(try have hne:=fresh_ne (by assumption) hko)<;>(try simp only [AH.put_none] at hko))|done)<;>(try simp -implicitDefEqProofs (disch:=omega) only [go_sem,true_or,or_true,true_and])))
  all_goals exact end_same
theorem int_calls (v : Vl) (H : AH) : ACalls Tryz.prog 33 [.agg [vV v]] H (fun o H' => o = .ret (.tuple [.int .i64 v.isI.1,.bool v.isI.2]) ∧ H' = H) := by
  refine ACalls.drop ?_
  refine acalls Tryz.func33 c33 r33 (by simp [Tryz.ntmps33]) ?_
  cases v
  all_goals simp only [vV_nul,vV_unk,vV_bool,vV_int,vV_pt,vV_text,vV_list,vV_map]
  repeat' (first|with_reducible refine go0 ?_|(with_reducible refine am_cnd ?_ ?_<;>intro hc<;>try (exfalso;omega))|((first|with_reducible (first|refine go1 ?_|refine vc_intro ?_|refine need_el ?_|refine vlen_a ?_|refine need_by ?_|refine need_lk ?_)|((with_reducible refine alloc_intro (fun ko hko=>?_))<;>(try have hne:=fresh_ne (by assumption) hko)<;>(try simp only [AH.put_none] at hko))|done)<;>(try simp -implicitDefEqProofs (disch:=omega) only [go_sem,true_or,or_true,true_and])))
  all_goals exact end_same
theorem text_calls (v : Vl) (H : AH) : ACalls Tryz.prog 35 [.agg [vV v]] H (fun o H' => o = .ret (.tuple [.str v.isT.1,.bool v.isT.2]) ∧ H' = H) := by
  refine ACalls.drop ?_
  refine acalls Tryz.func35 c35 r35 (by simp [Tryz.ntmps35]) ?_
  cases v
  all_goals simp only [vV_nul,vV_unk,vV_bool,vV_int,vV_pt,vV_text,vV_list,vV_map]
  repeat' (first|with_reducible refine go0 ?_|(with_reducible refine am_cnd ?_ ?_<;>intro hc<;>try (exfalso;omega))|((first|with_reducible (first|refine go1 ?_|refine vc_intro ?_|refine need_el ?_|refine vlen_a ?_|refine need_by ?_|refine need_lk ?_)|((with_reducible refine alloc_intro (fun ko hko=>?_))<;>(try have hne:=fresh_ne (by assumption) hko)<;>(try simp only [AH.put_none] at hko))|done)<;>(try simp -implicitDefEqProofs (disch:=omega) only [go_sem,true_or,or_true,true_and])))
  all_goals exact end_same
theorem mint_calls (n : Int) (H : AH) : ACalls Tryz.prog 42 [.int .i64 n] H (fun o H' => o = .ret (.agg [vV (.int n)]) ∧ H' = H) := by
  refine ACalls.drop ?_
  rw [vV_int]
  refine acalls Tryz.func42 c42 r42 (by simp [Tryz.ntmps42]) ?_
  repeat' (first|with_reducible refine go0 ?_|(with_reducible refine am_cnd ?_ ?_<;>intro hc<;>try (exfalso;omega))|((first|with_reducible (first|refine go1 ?_|refine vc_intro ?_|refine need_el ?_|refine vlen_a ?_|refine need_by ?_|refine need_lk ?_)|((with_reducible refine alloc_intro (fun ko hko=>?_))<;>(try have hne:=fresh_ne (by assumption) hko)<;>(try simp only [AH.put_none] at hko))|done)<;>(try simp -implicitDefEqProofs (disch:=omega) only [go_sem])))
  all_goals (refine drop_end (by (first | exact fun _ _ h => h | (intro s x h; first | exact no_sub _ h | exact nil_no _ h | exact AccP.sub (by assumption) _ _ h | (refine agg_sub rfl ?_ x h; repeat (first | exact .nil | refine .cons (fun _ h => h) ?_ | refine .cons (fun _ h => nil_no _ h) ?_ | refine .cons (fun _ h => no_sub _ h) ?_ | refine .cons (fun _ h => AccP.sub (by assumption) _ _ h) ?_)) | (refine tuple_sub ?_ x h; repeat (first | exact .nil | refine .cons (fun _ h => h) ?_ | refine .cons (fun _ h => nil_no _ h) ?_ | refine .cons (fun _ h => no_sub _ h) ?_ | refine .cons (fun _ h => AccP.sub (by assumption) _ _ h) ?_ | refine .cons (fun _ h => agg_sub rfl (by repeat (first | exact .nil | refine .cons (fun _ h => h) ?_ | refine .cons (fun _ h => nil_no _ h) ?_ | refine .cons (fun _ h => no_sub _ h) ?_ | refine .cons (fun _ h => AccP.sub (by assumption) _ _ h) ?_)) _ h) ?_))))) (by (repeat (first | exact AH.le_refl _ | assumption | exact AccP.le (by assumption) | refine AH.le_put ?_ (by first | assumption | exact none_of_le (by assumption) (by assumption) | exact And.right (by assumption) | exact And.right (And.right (by assumption))) _ | refine AH.le_trans ?_ (AccP.le (by assumption))))))
theorem mof_calls (b : Bool) (H : AH) : ACalls Tryz.prog 41 [.bool b] H (fun o H' => o = .ret (.agg [vV (.bool b)]) ∧ H' = H) := by
  refine ACalls.drop ?_
  rw [vV_bool]
  refine acalls Tryz.func41 c41 r41 (by simp [Tryz.ntmps41]) ?_
  repeat' (first|with_reducible refine go0 ?_|(with_reducible refine am_cnd ?_ ?_<;>intro hc<;>try (exfalso;omega))|((first|with_reducible (first|refine go1 ?_|refine vc_intro ?_|refine need_el ?_|refine vlen_a ?_|refine need_by ?_|refine need_lk ?_)|((with_reducible refine alloc_intro (fun ko hko=>?_))<;>(try have hne:=fresh_ne (by assumption) hko)<;>(try simp only [AH.put_none] at hko))|done)<;>(try simp -implicitDefEqProofs (disch:=omega) only [go_sem])))
  all_goals (refine drop_end (by (first | exact fun _ _ h => h | (intro s x h; first | exact no_sub _ h | exact nil_no _ h | exact AccP.sub (by assumption) _ _ h | (refine agg_sub rfl ?_ x h; repeat (first | exact .nil | refine .cons (fun _ h => h) ?_ | refine .cons (fun _ h => nil_no _ h) ?_ | refine .cons (fun _ h => no_sub _ h) ?_ | refine .cons (fun _ h => AccP.sub (by assumption) _ _ h) ?_)) | (refine tuple_sub ?_ x h; repeat (first | exact .nil | refine .cons (fun _ h => h) ?_ | refine .cons (fun _ h => nil_no _ h) ?_ | refine .cons (fun _ h => no_sub _ h) ?_ | refine .cons (fun _ h => AccP.sub (by assumption) _ _ h) ?_ | refine .cons (fun _ h => agg_sub rfl (by repeat (first | exact .nil | refine .cons (fun _ h => h) ?_ | refine .cons (fun _ h => nil_no _ h) ?_ | refine .cons (fun _ h => no_sub _ h) ?_ | refine .cons (fun _ h => AccP.sub (by assumption) _ _ h) ?_)) _ h) ?_))))) (by (repeat (first | exact AH.le_refl _ | assumption | exact AccP.le (by assumption) | refine AH.le_put ?_ (by first | assumption | exact none_of_le (by assumption) (by assumption) | exact And.right (by assumption) | exact And.right (And.right (by assumption))) _ | refine AH.le_trans ?_ (AccP.le (by assumption))))))
theorem mtext_calls (s : List UInt8) (H : AH) : ACalls Tryz.prog 44 [.str s] H (fun o H' => o = .ret (.agg [vV (.text s)]) ∧ H' = H) := by
  refine ACalls.drop ?_
  rw [vV_text]
  refine acalls Tryz.func44 c44 r44 (by simp [Tryz.ntmps44]) ?_
  repeat' (first|with_reducible refine go0 ?_|(with_reducible refine am_cnd ?_ ?_<;>intro hc<;>try (exfalso;omega))|((first|with_reducible (first|refine go1 ?_|refine vc_intro ?_|refine need_el ?_|refine vlen_a ?_|refine need_by ?_|refine need_lk ?_)|((with_reducible refine alloc_intro (fun ko hko=>?_))<;>(try have hne:=fresh_ne (by assumption) hko)<;>(try simp only [AH.put_none] at hko))|done)<;>(try simp -implicitDefEqProofs (disch:=omega) only [go_sem])))
  all_goals (refine drop_end (by (first | exact fun _ _ h => h | (intro s x h; first | exact no_sub _ h | exact nil_no _ h | exact AccP.sub (by assumption) _ _ h | (refine agg_sub rfl ?_ x h; repeat (first | exact .nil | refine .cons (fun _ h => h) ?_ | refine .cons (fun _ h => nil_no _ h) ?_ | refine .cons (fun _ h => no_sub _ h) ?_ | refine .cons (fun _ h => AccP.sub (by assumption) _ _ h) ?_)) | (refine tuple_sub ?_ x h; repeat (first | exact .nil | refine .cons (fun _ h => h) ?_ | refine .cons (fun _ h => nil_no _ h) ?_ | refine .cons (fun _ h => no_sub _ h) ?_ | refine .cons (fun _ h => AccP.sub (by assumption) _ _ h) ?_ | refine .cons (fun _ h => agg_sub rfl (by repeat (first | exact .nil | refine .cons (fun _ h => h) ?_ | refine .cons (fun _ h => nil_no _ h) ?_ | refine .cons (fun _ h => no_sub _ h) ?_ | refine .cons (fun _ h => AccP.sub (by assumption) _ _ h) ?_)) _ h) ?_))))) (by (repeat (first | exact AH.le_refl _ | assumption | exact AccP.le (by assumption) | refine AH.le_put ?_ (by first | assumption | exact none_of_le (by assumption) (by assumption) | exact And.right (by assumption) | exact And.right (And.right (by assumption))) _ | refine AH.le_trans ?_ (AccP.le (by assumption))))))
theorem mlater_calls (H : AH) : ACalls Tryz.prog 40 [] H (fun o H' => o = .ret (.agg [vV (.unk)]) ∧ H' = H) := by
  refine ACalls.drop ?_
  rw [vV_unk]
  refine acalls Tryz.func40 c40 r40 (by simp [Tryz.ntmps40]) ?_
  repeat' (first|with_reducible refine go0 ?_|(with_reducible refine am_cnd ?_ ?_<;>intro hc<;>try (exfalso;omega))|((first|with_reducible (first|refine go1 ?_|refine vc_intro ?_|refine need_el ?_|refine vlen_a ?_|refine need_by ?_|refine need_lk ?_)|((with_reducible refine alloc_intro (fun ko hko=>?_))<;>(try have hne:=fresh_ne (by assumption) hko)<;>(try simp only [AH.put_none] at hko))|done)<;>(try simp -implicitDefEqProofs (disch:=omega) only [go_sem])))
  all_goals (refine drop_end (by (first | exact fun _ _ h => h | (intro s x h; first | exact no_sub _ h | exact nil_no _ h | exact AccP.sub (by assumption) _ _ h | (refine agg_sub rfl ?_ x h; repeat (first | exact .nil | refine .cons (fun _ h => h) ?_ | refine .cons (fun _ h => nil_no _ h) ?_ | refine .cons (fun _ h => no_sub _ h) ?_ | refine .cons (fun _ h => AccP.sub (by assumption) _ _ h) ?_)) | (refine tuple_sub ?_ x h; repeat (first | exact .nil | refine .cons (fun _ h => h) ?_ | refine .cons (fun _ h => nil_no _ h) ?_ | refine .cons (fun _ h => no_sub _ h) ?_ | refine .cons (fun _ h => AccP.sub (by assumption) _ _ h) ?_ | refine .cons (fun _ h => agg_sub rfl (by repeat (first | exact .nil | refine .cons (fun _ h => h) ?_ | refine .cons (fun _ h => nil_no _ h) ?_ | refine .cons (fun _ h => no_sub _ h) ?_ | refine .cons (fun _ h => AccP.sub (by assumption) _ _ h) ?_)) _ h) ?_))))) (by (repeat (first | exact AH.le_refl _ | assumption | exact AccP.le (by assumption) | refine AH.le_put ?_ (by first | assumption | exact none_of_le (by assumption) (by assumption) | exact And.right (by assumption) | exact And.right (And.right (by assumption))) _ | refine AH.le_trans ?_ (AccP.le (by assumption))))))
theorem munset_calls (H : AH) : ACalls Tryz.prog 47 [] H (fun o H' => o = .ret (.agg [vV (.nul)]) ∧ H' = H) := by
  refine ACalls.drop ?_
  rw [vV_nul]
  refine acalls Tryz.func47 c47 r47 (by simp [Tryz.ntmps47]) ?_
  repeat' (first|with_reducible refine go0 ?_|(with_reducible refine am_cnd ?_ ?_<;>intro hc<;>try (exfalso;omega))|((first|with_reducible (first|refine go1 ?_|refine vc_intro ?_|refine need_el ?_|refine vlen_a ?_|refine need_by ?_|refine need_lk ?_)|((with_reducible refine alloc_intro (fun ko hko=>?_))<;>(try have hne:=fresh_ne (by assumption) hko)<;>(try simp only [AH.put_none] at hko))|done)<;>(try simp -implicitDefEqProofs (disch:=omega) only [go_sem])))
  all_goals (refine drop_end (by (first | exact fun _ _ h => h | (intro s x h; first | exact no_sub _ h | exact nil_no _ h | exact AccP.sub (by assumption) _ _ h | (refine agg_sub rfl ?_ x h; repeat (first | exact .nil | refine .cons (fun _ h => h) ?_ | refine .cons (fun _ h => nil_no _ h) ?_ | refine .cons (fun _ h => no_sub _ h) ?_ | refine .cons (fun _ h => AccP.sub (by assumption) _ _ h) ?_)) | (refine tuple_sub ?_ x h; repeat (first | exact .nil | refine .cons (fun _ h => h) ?_ | refine .cons (fun _ h => nil_no _ h) ?_ | refine .cons (fun _ h => no_sub _ h) ?_ | refine .cons (fun _ h => AccP.sub (by assumption) _ _ h) ?_ | refine .cons (fun _ h => agg_sub rfl (by repeat (first | exact .nil | refine .cons (fun _ h => h) ?_ | refine .cons (fun _ h => nil_no _ h) ?_ | refine .cons (fun _ h => no_sub _ h) ?_ | refine .cons (fun _ h => AccP.sub (by assumption) _ _ h) ?_)) _ h) ?_))))) (by (repeat (first | exact AH.le_refl _ | assumption | exact AccP.le (by assumption) | refine AH.le_put ?_ (by first | assumption | exact none_of_le (by assumption) (by assumption) | exact And.right (by assumption) | exact And.right (And.right (by assumption))) _ | refine AH.le_trans ?_ (AccP.le (by assumption))))))
end Go.Proofs.YtkldmgnhbomknaaGreat
namespace Go.Proofs.YtkldmgnhbomknaaGreat
open Go.Vm Go.Sort
attribute [local go_sem] eq_self decide_true decide_false AH.put_ne
attribute [local go_sem_proc] Nat.reduceBEq Nat.reduceAdd Nat.reduceSub Nat.reduceMul Nat.reduceEqDiff Nat.reduceLeDiff Nat.reduceLT Int.reduceLE Int.reduceLT Int.reduceToNat Int.reduceAdd Int.reduceEq Int.reduceNeg
attribute [local go_sem] List.drop_zero toNat_succ Nat.sub_zero Int.toNat_natCast Option.map_some Int.natCast_nonneg decide_eq_true_eq decide_eq_false_iff_not
/- (flange/value.Value).Keys -/
abbrev k37_0 : MC :=
 (.seq (.reg [
 mv 11 3,
 ⟨some 12,none,.call 65 [(.t 11)]⟩,
 ⟨some 13,none,.call 64 [(.t 12)]⟩,
 mv 2 13] [2]) (.ret))
abbrev k37_1 : MC :=
 (.seq (.reg [
 vl 6 (.faddr 0 (.t 1)),
 vl 7 (.load false 1 (.t 6)),
 vl 8 (.tya 123 true .nilMap (.t 7)),
 mv 5 8,
 vl 9 (.ext (.t 5) 0),
 vl 10 (.ext (.t 5) 1),
 mv 3 9,
 mv 4 10] [3]) k37_0)
abbrev k37 : MC :=
 (.seq (.reg [
 ⟨some 1,none,.boxi (.t 0)⟩,
 vl 2 (.mv (.c .nilSl))] [1]) k37_1)
theorem c37 : Tryz.f37.body.bind (mcOf Tryz.prog (List.contains [1] ·) (List.getD [([],[1]),([],[3]),([],[2])] · ([],[])) 14) = some k37 := by kernel_rfl
theorem r37 : rvsOf Tryz.prog Tryz.f37.results.toList = some [.tmp 2] := by kernel_rfl
/- maps.Keys[flange/value.table,string,flange/value.Value] -/
abbrev k65_0 : MC :=
 (.seq (.reg [
 vl 3 (.mkfn (.func 84) [] [(.t 1)]),
 mv 2 3] [2]) (.ret))
abbrev k65 : MC :=
 (.seq (.reg [
 ⟨some 1,none,.box (.t 0)⟩,
 vl 2 (.mv (.c .nilFunc))] [1]) k65_0)
theorem c65 : Tryz.f65.body.bind (mcOf Tryz.prog (List.contains [] ·) (List.getD [([],[1]),([],[2])] · ([],[])) 4) = some k65 := by kernel_rfl
theorem r65 : rvsOf Tryz.prog Tryz.f65.results.toList = some [.tmp 2] := by kernel_rfl
def Vl.at (k : List UInt8) : Vl → Option Vl
  | .map es => fnd k es
  | _ => none
def Vl.keys : Vl → List (List UInt8)
  | .map es => kys es
  | _ => []
theorem mE_find (n : List UInt8) : ∀ l,mfind .str (.str n) (mE l) = some ((fnd n l).map fun x => V.agg [vV x])
  | [] => rfl
  | p :: l => by
    simp only [mE,List.map_cons,mfind,BK.eq,fnd]
    have := mE_find n l
    by_cases h : p.1 = n
    · simp [h]
    · have h' : ¬ n = p.1 := fun e => h e.symm
      simp only [h,h',decide_false,if_false]; exact this
theorem mkeys_calls {m : V} (hm : m = .nilMap ∨ ∃ es,m = .mapv es) (H : AH) : ACalls Tryz.prog 65 [m] H (fun o H' => ∃ v,o = .ret v ∧ ∃ ko,H ko = none ∧ v = .func (.func 84) [] [.ptr ko 0] ∧ H' = H.put ko (.cells [m])) := by
  refine acalls Tryz.func65 c65 r65 (by simp [Tryz.ntmps65]) ?_
  rcases hm with rfl | ⟨es,rfl⟩
  · repeat' (first|with_reducible refine go0 ?_|(with_reducible refine am_cnd ?_ ?_<;>intro hc<;>try (exfalso;omega))|((first|with_reducible (first|refine go1 ?_|refine vc_intro ?_|refine need_el ?_|refine vlen_a ?_|refine need_by ?_|refine need_lk ?_)|((with_reducible refine alloc_intro (fun ko hko=>?_))<;>(try have hne:=fresh_ne (by assumption) hko)<;>(try simp only [AH.put_none] at hko))|done)<;>(try simp -implicitDefEqProofs (disch:=omega) only [go_sem,true_or,or_true,true_and])))
    all_goals exact ⟨_,rfl,_,hko,rfl,rfl⟩
  · repeat' (first|with_reducible refine go0 ?_|(with_reducible refine am_cnd ?_ ?_<;>intro hc<;>try (exfalso;omega))|((first|with_reducible (first|refine go1 ?_|refine vc_intro ?_|refine need_el ?_|refine vlen_a ?_|refine need_by ?_|refine need_lk ?_)|((with_reducible refine alloc_intro (fun ko hko=>?_))<;>(try have hne:=fresh_ne (by assumption) hko)<;>(try simp only [AH.put_none] at hko))|done)<;>(try simp -implicitDefEqProofs (disch:=omega) only [go_sem,true_or,or_true,true_and])))
    all_goals exact ⟨_,rfl,_,hko,rfl,rfl⟩
theorem mE_keys (es : List (List UInt8 × Vl)) : (mE es).map Prod.fst = (es.map Prod.fst).map V.str := by simp [mE]
theorem sortedM {g kb : Nat} {es : List (List UInt8 × Vl)} (ho : (Vl.map es).Ok) {H : AH} (hg : H g = some .nodr) (hkb : H kb = none) :
    ACalls Tryz.prog 64 [.func (.func 84) [] [.ptr kb 0]] (H.put kb (.cells [.mapv (mE es)])) (fun o H' => o = .ret (.sl 1 (strE (kys es)) .no) ∧ H' = H.put kb (.cells [.mapv (mE es)])) := by
  cases ho with
  | map _ o1 o2 o3 o4 =>
    refine sorted_calls (look_put hg hkb) (AH.put_same _ _ _) (mE_keys es) o2 (fun k hk => ?_) (by rw [List.length_map]; omega)
    obtain ⟨p,hp,rfl⟩ := List.mem_map.1 hk
    exact o3 p hp
theorem keys_calls {g : Nat} {v : Vl} (ho : v.Ok) {H : AH} (hg : H g = some .nodr) : ACalls Tryz.prog 37 [.agg [vV v]] H (fun o H' => o = .ret (.sl 1 (strE v.keys) .no) ∧ H' = H) := by
  refine ACalls.drop ?_
  refine acalls Tryz.func37 c37 r37 (by simp [Tryz.ntmps37]) ?_
  by_cases hm : ∃ es,v = .map es
  · obtain ⟨es,rfl⟩ := hm
    rw [vV_map]
    repeat' (first|((with_reducible refine call_ex (mkeys_calls (.inr ⟨_,rfl⟩) _) (fun v H2 hr=>?_));obtain ⟨kb,hkb,rfl,rfl⟩:=hr)|with_reducible refine go0 ?_|(with_reducible refine am_cnd ?_ ?_<;>intro hc<;>try (exfalso;omega))|((first|with_reducible (first|refine go1 ?_|refine vc_intro ?_|refine need_el ?_|refine vlen_a ?_|refine need_by ?_|refine call_turn (sortedM ho hg hkb) ?_|refine need_lk ?_)|((with_reducible refine alloc_intro (fun ko hko=>?_))<;>(try have hne:=fresh_ne (by assumption) hko)<;>(try have hnk:=fresh_ne hk hko)<;>(try simp only [AH.put_none] at hko))|done)<;>(try simp -implicitDefEqProofs (disch:=omega) only [go_sem,true_or,or_true,true_and])))
    all_goals (simp only [Vl.keys]; exact drop_end (fun s y h => h) (AH.le_put (AH.le_refl _) hkb _))
  · have hk : v.keys = [] := by cases v <;> first | rfl | exact absurd ⟨_,rfl⟩ hm
    rw [hk]
    cases v
    case map es => exact absurd ⟨_,rfl⟩ hm
    all_goals simp only [vV_nul,vV_unk,vV_bool,vV_int,vV_pt,vV_text,vV_list,vV_map]
    repeat' (first|((with_reducible refine call_ex (mkeys_calls (.inl rfl) _) (fun v H2 hr=>?_));obtain ⟨kb,hkb,rfl,rfl⟩:=hr)|with_reducible refine go0 ?_|(with_reducible refine am_cnd ?_ ?_<;>intro hc<;>try (exfalso;omega))|((first|with_reducible (first|refine go1 ?_|refine vc_intro ?_|refine need_el ?_|refine vlen_a ?_|refine need_by ?_|refine call_turn (sorted_nil_calls (look_put hg hkb) (AH.put_same _ _ _)) ?_|refine need_lk ?_)|((with_reducible refine alloc_intro (fun ko hko=>?_))<;>(try have hne:=fresh_ne (by assumption) hko)<;>(try have hnk:=fresh_ne hk hko)<;>(try simp only [AH.put_none] at hko))|done)<;>(try simp -implicitDefEqProofs (disch:=omega) only [go_sem,true_or,or_true,true_and])))
    all_goals (exact drop_end (fun s y h => h) (AH.le_put (AH.le_refl _) hkb _))
end Go.Proofs.YtkldmgnhbomknaaGreat
namespace Go.Proofs.YtkldmgnhbomknaaGreat
open Go.Vm Go.Sort
attribute [local go_sem] eq_self decide_true decide_false AH.put_ne
attribute [local go_sem_proc] Nat.reduceBEq Nat.reduceAdd Nat.reduceSub Nat.reduceMul Nat.reduceEqDiff Nat.reduceLeDiff Nat.reduceLT Int.reduceLE Int.reduceLT Int.reduceToNat Int.reduceAdd Int.reduceEq Int.reduceNeg
attribute [local go_sem] List.drop_zero toNat_succ Nat.sub_zero Int.toNat_natCast Option.map_some Int.natCast_nonneg decide_eq_true_eq decide_eq_false_iff_not
/- (flange/value.Value).Items -/
abbrev k36_0 : MC :=
 .cond (.t 16) ((.seq (.reg [
 mv 17 3,
 ⟨some 18,none,.call 63 [(.t 17)]⟩,
 mv 2 18] [2]) (.ret))) (.skip)
abbrev k36_1 : MC :=
 (.seq (.reg [
 mv 16 4] [1,3,16]) k36_0)
abbrev k36_2 : MC :=
 .reg [
 mv 32 5,
 mv 33 6,
 mv 34 9,
 vl 35 (.yo (.look .str (.agg [.nilIface]) false) [(.t 33),(.t 34)]),
 ⟨some 36,none,.bslice 1 1 [.nilIface] [(0,1,(.t 35))]⟩,
 ⟨some 37,none,.app 1 16 (.t 32) (.t 36)⟩,
 mv 5 37] [5,6,26,27,28]
abbrev k36_3 : MC :=
 .reg [
 vl 38 (.bin .add .num (.t 28) (.c (.int .i64 1))),
 mv 28 38] [5,6,26,27,28]
abbrev k36_4 : MC :=
 (.seq (.block 1 ((.seq (.reg [
 vl 30 (.iaddr 1 (.t 26) (.t 28)),
 vl 31 (.load false 1 (.t 30)),
 mv 9 31] [5,6,9,26,27,28]) k36_2))) k36_3)
abbrev k36_5 : MC :=
 (.seq (.cond (.t 29) (.skip) (.exit 0)) k36_4)
abbrev k36_6 : MC :=
 (.seq (.reg [
 vl 29 (.bin .lss .num (.t 28) (.t 27))] [5,6,26,27,28,29]) k36_5)
abbrev k36_7 : MC :=
 .block 0 (.loop k36_6)
abbrev k36_8 : MC :=
 (.seq (.reg [
 mv 39 5,
 mv 2 39] [2]) (.ret))
abbrev k36_9 : MC :=
 (.seq ((.seq (.reg [
 vl 25 (.load true 1 (.t 1)),
 ⟨some 26,none,.call 37 [(.t 25)]⟩,
 vl 27 (.len .sl (.t 26)),
 vl 28 (.mv (.c (.int .i64 0)))] [5,6,26,27,28]) k36_7)) k36_8)
abbrev k36_10 : MC :=
 (.seq (.reg [
 vl 20 (.faddr 0 (.t 1)),
 vl 21 (.load false 1 (.t 20)),
 vl 22 (.tya 123 true .nilMap (.t 21)),
 mv 19 22,
 vl 23 (.ext (.t 19) 0),
 vl 24 (.ext (.t 19) 1),
 mv 6 23,
 mv 7 24] [1,5,6]) k36_9)
abbrev k36_11 : MC :=
 (.seq (.reg [
 vl 5 (.mv (.c .nilSl))] [1,5]) k36_10)
abbrev k36_12 : MC :=
 (.seq ((.seq (.reg [
 vl 11 (.faddr 0 (.t 1)),
 vl 12 (.load false 1 (.t 11)),
 vl 13 (.tya 119 true .nilSl (.t 12)),
 mv 10 13,
 vl 14 (.ext (.t 10) 0),
 vl 15 (.ext (.t 10) 1),
 mv 3 14,
 mv 4 15] [1,3,4]) k36_1)) k36_11)
abbrev k36 : MC :=
 (.seq (.reg [
 ⟨some 1,none,.boxi (.t 0)⟩,
 vl 2 (.mv (.c .nilSl))] [1]) k36_12)
theorem c36 : Tryz.f36.body.bind (mcOf Tryz.prog (List.contains [1] ·) (List.getD [([],[1]),([],[1,3,4]),([],[1,3,16]),([],[2]),([],[1,5]),([],[1,5,6]),([],[5,6,26,27,28]),([],[5,6,26,27,28,29]),([],[5,6,9,26,27,28]),([],[5,6,26,27,28]),([],[5,6,26,27,28]),([],[2])] · ([],[])) 40) = some k36 := by kernel_rfl
theorem r36 : rvsOf Tryz.prog Tryz.f36.results.toList = some [.tmp 2] := by kernel_rfl
/- slices.Clone[[]flange/value.Value,flange/value.Value] -/
abbrev k67_0 : MC :=
 .cond (.t 4) ((.seq (.reg [
 vl 2 (.mv (.c .nilSl))] [2]) (.ret))) (.skip)
abbrev k67_1 : MC :=
 (.seq (.reg [
 ⟨some 5,none,.bslice 1 0 [] []⟩,
 mv 6 0,
 ⟨some 7,none,.app 1 16 (.t 5) (.t 6)⟩,
 mv 2 7] [2]) (.ret))
abbrev k67_2 : MC :=
 (.seq ((.seq (.reg [
 mv 3 0,
 ⟨some 4,none,.isnil false (.t 3)⟩] [0,4]) k67_0)) k67_1)
abbrev k67 : MC :=
 (.seq (.reg [
 vl 2 (.mv (.c .nilSl))] [0]) k67_2)
theorem c67 : Tryz.f67.body.bind (mcOf Tryz.prog (List.contains [] ·) (List.getD [([],[0]),([],[0,4]),([],[2]),([],[2])] · ([],[])) 8) = some k67 := by kernel_rfl
theorem r67 : rvsOf Tryz.prog Tryz.f67.results.toList = some [.tmp 2] := by kernel_rfl
/- slices.Clone[flange/value.list,flange/value.Value] -/
abbrev k63_0 : MC :=
 .cond (.t 4) ((.seq (.reg [
 vl 2 (.mv (.c .nilSl))] [2]) (.ret))) (.skip)
abbrev k63_1 : MC :=
 (.seq (.reg [
 ⟨some 5,none,.bslice 1 0 [] []⟩,
 mv 6 0,
 ⟨some 7,none,.app 1 16 (.t 5) (.t 6)⟩,
 mv 2 7] [2]) (.ret))
abbrev k63_2 : MC :=
 (.seq ((.seq (.reg [
 mv 3 0,
 ⟨some 4,none,.isnil false (.t 3)⟩] [0,4]) k63_0)) k63_1)
abbrev k63 : MC :=
 (.seq (.reg [
 vl 2 (.mv (.c .nilSl))] [0]) k63_2)
theorem c63 : Tryz.f63.body.bind (mcOf Tryz.prog (List.contains [] ·) (List.getD [([],[0]),([],[0,4]),([],[2]),([],[2])] · ([],[])) 8) = some k63 := by kernel_rfl
theorem r63 : rvsOf Tryz.prog Tryz.f63.results.toList = some [.tmp 2] := by kernel_rfl
/- flange/value.List -/
abbrev k45_0 : MC :=
 (.seq (.reg [
 mv 3 0,
 ⟨some 4,none,.call 67 [(.t 3)]⟩,
 vl 5 (.mkif 119 (.t 4)),
 ⟨some 6,none,.build [.nilIface] [(0,1,(.t 5))]⟩,
 ⟨none,none,.store 1 (.t 2) (.t 6)⟩] [2]) (.ret))
abbrev k45 : MC :=
 (.seq (.reg [
 ⟨some 2,none,.zalloc [.nilIface]⟩] [0,2]) k45_0)
theorem c45 : Tryz.f45.body.bind (mcOf Tryz.prog (List.contains [] ·) (List.getD [([],[0,2]),([],[2])] · ([],[])) 7) = some k45 := by kernel_rfl
theorem r45 : rvsOf Tryz.prog Tryz.f45.results.toList = some [.cell 2 true 1] := by kernel_rfl
theorem clone_calls {l : List Vl} {t : Tok} (hl : l.length * 16 ≤ 140000000000000) (H : AH) : ACalls Tryz.prog 67 [.sl 1 (vE l) t] H (fun o H' => o = .ret (.sl 1 (vE l) .no) ∧ H' = H) := by
  refine ACalls.drop ?_
  refine acalls Tryz.func67 c67 r67 (by simp [Tryz.ntmps67]) ?_
  repeat' (first|with_reducible refine go0 ?_|(with_reducible refine am_cnd ?_ ?_<;>intro hc<;>try (exfalso;omega))|((first|with_reducible (first|refine go1 ?_|refine vc_intro ?_|refine isnE_of (fun hc=>?_) (fun hc=>?_) (fun hc=>?_)|refine need_el ?_|refine vlen_a ?_|refine need_by ?_|refine need_lk ?_)|((with_reducible refine alloc_intro (fun ko hko=>?_))<;>(try have hne:=fresh_ne (by assumption) hko)<;>(try simp only [AH.put_none] at hko))|((with_reducible refine vapp_go ?_ (fun v2 H2 hacc hlec=>?_));· simp only [byteCells_length,List.length_cons,List.length_nil,List.length_map,List.length_append,vE_length,mE_length,strE_len,List.length_take];omega)|done)<;>(try simp -implicitDefEqProofs (disch:=omega) only [go_sem,vE_length])))
  · rename_i he; rw [he]; exact drop_end (fun s y h => nil_no _ h) (AH.le_refl _)
  all_goals exact drop_end (fun s y h => by rw [List.nil_append] at h; exact no_sub _ h) (AH.le_put (AH.le_refl _) hko _)
theorem clonel_calls {l : List Vl} {t : Tok} (hl : l.length * 16 ≤ 140000000000000) (H : AH) : ACalls Tryz.prog 63 [.sl 1 (vE l) t] H (fun o H' => o = .ret (.sl 1 (vE l) .no) ∧ H' = H) := by
  refine ACalls.drop ?_
  refine acalls Tryz.func63 c63 r63 (by simp [Tryz.ntmps63]) ?_
  repeat' (first|with_reducible refine go0 ?_|(with_reducible refine am_cnd ?_ ?_<;>intro hc<;>try (exfalso;omega))|((first|with_reducible (first|refine go1 ?_|refine vc_intro ?_|refine isnE_of (fun hc=>?_) (fun hc=>?_) (fun hc=>?_)|refine need_el ?_|refine vlen_a ?_|refine need_by ?_|refine need_lk ?_)|((with_reducible refine alloc_intro (fun ko hko=>?_))<;>(try have hne:=fresh_ne (by assumption) hko)<;>(try simp only [AH.put_none] at hko))|((with_reducible refine vapp_go ?_ (fun v2 H2 hacc hlec=>?_));· simp only [byteCells_length,List.length_cons,List.length_nil,List.length_map,List.length_append,vE_length,mE_length,strE_len,List.length_take];omega)|done)<;>(try simp -implicitDefEqProofs (disch:=omega) only [go_sem,vE_length])))
  · rename_i he; rw [he]; exact drop_end (fun s y h => nil_no _ h) (AH.le_refl _)
  all_goals exact drop_end (fun s y h => by rw [List.nil_append] at h; exact no_sub _ h) (AH.le_put (AH.le_refl _) hko _)
theorem list_calls {l : List Vl} {t : Tok} (hl : l.length * 16 ≤ 140000000000000) (H : AH) : ACalls Tryz.prog 45 [.sl 1 (vE l) t] H (fun o H' => o = .ret (.agg [vV (.list l)]) ∧ H' = H) := by
  refine ACalls.drop ?_
  rw [vV_list]
  refine acalls Tryz.func45 c45 r45 (by simp [Tryz.ntmps45]) ?_
  repeat' (first|with_reducible refine go0 ?_|(with_reducible refine am_cnd ?_ ?_<;>intro hc<;>try (exfalso;omega))|((first|with_reducible (first|refine go1 ?_|refine vc_intro ?_|refine need_el ?_|refine vlen_a ?_|refine need_by ?_|refine call_of (clone_calls hl) ?_|refine qcall_of (clone_calls hl) ?_|refine need_lk ?_)|((with_reducible refine alloc_intro (fun ko hko=>?_))<;>(try have hne:=fresh_ne (by assumption) hko)<;>(try simp only [AH.put_none] at hko))|done)<;>(try simp -implicitDefEqProofs (disch:=omega) only [go_sem,vE_length])))
  all_goals (refine drop_end (by (first | exact fun _ _ h => h | (intro s x h; first | exact no_sub _ h | exact nil_no _ h | exact AccP.sub (by assumption) _ _ h | (refine agg_sub rfl ?_ x h; repeat (first | exact .nil | refine .cons (fun _ h => h) ?_ | refine .cons (fun _ h => nil_no _ h) ?_ | refine .cons (fun _ h => no_sub _ h) ?_ | refine .cons (fun _ h => AccP.sub (by assumption) _ _ h) ?_)) | (refine tuple_sub ?_ x h; repeat (first | exact .nil | refine .cons (fun _ h => h) ?_ | refine .cons (fun _ h => nil_no _ h) ?_ | refine .cons (fun _ h => no_sub _ h) ?_ | refine .cons (fun _ h => AccP.sub (by assumption) _ _ h) ?_ | refine .cons (fun _ h => agg_sub rfl (by repeat (first | exact .nil | refine .cons (fun _ h => h) ?_ | refine .cons (fun _ h => nil_no _ h) ?_ | refine .cons (fun _ h => no_sub _ h) ?_ | refine .cons (fun _ h => AccP.sub (by assumption) _ _ h) ?_)) _ h) ?_))))) (by (repeat (first | exact AH.le_refl _ | assumption | exact AccP.le (by assumption) | refine AH.le_put ?_ (by first | assumption | exact none_of_le (by assumption) (by assumption) | exact And.right (by assumption) | exact And.right (And.right (by assumption))) _ | refine AH.le_trans ?_ (AccP.le (by assumption))))))
theorem iface_sub {s : St} {t : Nat} {v u : V} (h : ∀ x,s.val v x → s.val u x) (x : Value) (hx : s.val (.iface t v) x) : s.val (.iface t u) x := by
  cases hx with
  | iface _ _ y h1 => exact .iface _ _ _ (h _ h1)
theorem nil_vE : V.sl 1 (vE []) .no = .sl 1 [] .no := rfl
def look (es : List (List UInt8 × Vl)) (k : List UInt8) : Vl := (fnd k es).getD .nul
def Vl.items : Vl → List Vl
  | .list l => l
  | .map es => (kys es).map (look es)
  | _ => []
theorem kys_length (es : List (List UInt8 × Vl)) : (kys es).length = es.length := by rw [kys,List.length_mergeSort,List.length_map]
theorem strE_get {l : List (List UInt8)} {i : Nat} (h : i < l.length) : (strE l)[i]? = some [.str l[i]] := by simp [strE,h]
theorem mres_look (es : List (List UInt8 × Vl)) (k : List UInt8) : mres false (.agg [.nilIface]) ((fnd k es).map fun x => V.agg [vV x]) = .agg [vV (look es k)] := by
  unfold look
  cases fnd k es with
  | none => rw [Option.map_none,Option.getD_none,vV_nul]; rfl
  | some x => rfl
theorem items_calls {g : Nat} {v : Vl} (ho : v.Ok) {H : AH} (hg : H g = some .nodr) : ACalls Tryz.prog 36 [.agg [vV v]] H (fun o H' => o = .ret (.sl 1 (vE v.items) .no) ∧ H' = H) := by
  refine ACalls.drop ?_
  refine acalls Tryz.func36 c36 r36 (by simp [Tryz.ntmps36]) ?_
  by_cases hm : ∃ es,v = .map es
  · obtain ⟨es,rfl⟩ := hm
    have hk := fun H hg => keys_calls (g := g) ho (H := H) hg
    simp only [Vl.keys] at hk
    rw [vV_map] at hk ⊢
    have hkl := kys_length es
    have hb : es.length * 16 ≤ 100000000000000 := by cases ho; assumption
    repeat' (first|with_reducible refine go0 ?_|(with_reducible refine am_cnd ?_ ?_<;>intro hc<;>try (exfalso;omega))|((first|with_reducible (first|refine go1 ?_|refine vc_intro ?_|refine need_el ?_|refine vlen_a ?_|refine need_by ?_|refine call_turn (hk _ hg) ?_|refine need_lk ?_)|((with_reducible refine alloc_intro (fun ko hko=>?_))<;>(try have hne:=fresh_ne (by assumption) hko)<;>(try have hnk:=fresh_ne hk hko)<;>(try simp only [AH.put_none] at hko))|((with_reducible refine vapp_go ?_ (fun v2 H2 hacc hlec=>?_));· simp only [byteCells_length,List.length_cons,List.length_nil,List.length_map,List.length_append,vE_length,mE_length,strE_len,List.length_take];omega)|done)<;>(try simp -implicitDefEqProofs (disch:=omega) only [go_sem,true_or,or_true,true_and,strE_len])))
    refine am_loop (fun n a H' => ∃ (i : Nat) (v : V),i + n = (kys es).length ∧ a = [(5,v),(6,.mapv (mE es)),(26,.sl 1 (strE (kys es)) .no),(27,.int .i64 (kys es).length),(28,.int .i64 i)] ∧ AccP H 1 (vE (((kys es).take i).map (look es))) v H') ?_ (kys es).length ⟨0,.nilSl,by omega,rfl,AH.le_refl _,.inl ⟨rfl,rfl⟩⟩
    rintro n a H' ⟨i,v,hi,rfl,hacc⟩
    by_cases hlt : i < (kys es).length
    · have e : vE (((kys es).take i).map (look es)) ++ [[vV (look es (kys es)[i])]] = vE (((kys es).take (i + 1)).map (look es)) := by
        rw [List.take_succ_eq_append_getElem hlt,List.map_append,← vE_app]; rfl
      repeat' (first|with_reducible refine go0 ?_|(with_reducible refine am_cnd ?_ ?_<;>intro hc<;>try (exfalso;omega))|((first|with_reducible (first|refine go1 ?_|refine vc_intro ?_|refine need_el ?_|refine vlen_a ?_|refine need_by ?_|refine need_lk ?_)|((with_reducible refine alloc_intro (fun ko hko=>?_))<;>(try have hne:=fresh_ne (by assumption) hko)<;>(try have hnk:=fresh_ne hk hko)<;>(try simp only [AH.put_none] at hko))|((with_reducible refine vapp_go ?_ (fun v2 H2 hacc hlec=>?_));· simp only [byteCells_length,List.length_cons,List.length_nil,List.length_map,List.length_append,vE_length,mE_length,strE_len,List.length_take];omega)|done)<;>(try simp -implicitDefEqProofs (disch:=omega) only [go_sem,wrap_id,strE_len,strE_get hlt,mE_find,mres_look])))
      all_goals exact ⟨n - 1,by omega,i + 1,_,by omega,rfl,by rw [← e]; exact hacc⟩
    · have e : ((kys es).take i).map (look es) = (Vl.map es).items := by rw [List.take_of_length_le (by omega)]; rfl
      rw [e] at hacc
      repeat' (first|with_reducible refine go0 ?_|(with_reducible refine am_cnd ?_ ?_<;>intro hc<;>try (exfalso;omega))|((first|with_reducible (first|refine go1 ?_|refine vc_intro ?_|refine need_el ?_|refine vlen_a ?_|refine need_by ?_|refine need_lk ?_)|((with_reducible refine alloc_intro (fun ko hko=>?_))<;>(try have hne:=fresh_ne (by assumption) hko)<;>(try have hnk:=fresh_ne hk hko)<;>(try simp only [AH.put_none] at hko))|((with_reducible refine vapp_go ?_ (fun v2 H2 hacc hlec=>?_));· simp only [byteCells_length,List.length_cons,List.length_nil,List.length_map,List.length_append,vE_length,mE_length,strE_len,List.length_take];omega)|done)<;>(try simp -implicitDefEqProofs (disch:=omega) only [go_sem,wrap_id,strE_len])))
      all_goals (refine drop_end (by (first | exact fun _ _ h => h | (intro s x h; first | exact no_sub _ h | exact nil_no _ h | exact AccP.sub (by assumption) _ _ h | (refine agg_sub rfl ?_ x h; repeat (first | exact .nil | refine .cons (fun _ h => h) ?_ | refine .cons (fun _ h => nil_no _ h) ?_ | refine .cons (fun _ h => no_sub _ h) ?_ | refine .cons (fun _ h => AccP.sub (by assumption) _ _ h) ?_)) | (refine tuple_sub ?_ x h; repeat (first | exact .nil | refine .cons (fun _ h => h) ?_ | refine .cons (fun _ h => nil_no _ h) ?_ | refine .cons (fun _ h => no_sub _ h) ?_ | refine .cons (fun _ h => AccP.sub (by assumption) _ _ h) ?_ | refine .cons (fun _ h => agg_sub rfl (by repeat (first | exact .nil | refine .cons (fun _ h => h) ?_ | refine .cons (fun _ h => nil_no _ h) ?_ | refine .cons (fun _ h => no_sub _ h) ?_ | refine .cons (fun _ h => AccP.sub (by assumption) _ _ h) ?_)) _ h) ?_))))) (by (repeat (first | exact AH.le_refl _ | assumption | exact AccP.le (by assumption) | refine AH.le_put ?_ (by first | assumption | exact none_of_le (by assumption) (by assumption) | exact And.right (by assumption) | exact And.right (And.right (by assumption))) _ | refine AH.le_trans ?_ (AccP.le (by assumption))))))
  · by_cases hm2 : ∃ l,v = .list l
    · obtain ⟨l,rfl⟩ := hm2
      have hl : l.length * 16 ≤ 140000000000000 := by cases ho; omega
      rw [vV_list]
      repeat' (first|with_reducible refine go0 ?_|(with_reducible refine am_cnd ?_ ?_<;>intro hc<;>try (exfalso;omega))|((first|with_reducible (first|refine go1 ?_|refine vc_intro ?_|refine need_el ?_|refine vlen_a ?_|refine need_by ?_|refine call_of (clonel_calls hl) ?_|refine qcall_of (clonel_calls hl) ?_|refine need_lk ?_)|((with_reducible refine alloc_intro (fun ko hko=>?_))<;>(try have hne:=fresh_ne (by assumption) hko)<;>(try have hnk:=fresh_ne hk hko)<;>(try simp only [AH.put_none] at hko))|((with_reducible refine vapp_go ?_ (fun v2 H2 hacc hlec=>?_));· simp only [byteCells_length,List.length_cons,List.length_nil,List.length_map,List.length_append,vE_length,mE_length,strE_len,List.length_take];omega)|done)<;>(try simp -implicitDefEqProofs (disch:=omega) only [go_sem,true_or,or_true,true_and])))
      all_goals (refine drop_end (by (first | exact fun _ _ h => h | (intro s x h; first | exact no_sub _ h | exact nil_no _ h | exact AccP.sub (by assumption) _ _ h | (refine agg_sub rfl ?_ x h; repeat (first | exact .nil | refine .cons (fun _ h => h) ?_ | refine .cons (fun _ h => nil_no _ h) ?_ | refine .cons (fun _ h => no_sub _ h) ?_ | refine .cons (fun _ h => AccP.sub (by assumption) _ _ h) ?_)) | (refine tuple_sub ?_ x h; repeat (first | exact .nil | refine .cons (fun _ h => h) ?_ | refine .cons (fun _ h => nil_no _ h) ?_ | refine .cons (fun _ h => no_sub _ h) ?_ | refine .cons (fun _ h => AccP.sub (by assumption) _ _ h) ?_ | refine .cons (fun _ h => agg_sub rfl (by repeat (first | exact .nil | refine .cons (fun _ h => h) ?_ | refine .cons (fun _ h => nil_no _ h) ?_ | refine .cons (fun _ h => no_sub _ h) ?_ | refine .cons (fun _ h => AccP.sub (by assumption) _ _ h) ?_)) _ h) ?_))))) (by (repeat (first | exact AH.le_refl _ | assumption | exact AccP.le (by assumption) | refine AH.le_put ?_ (by first | assumption | exact none_of_le (by assumption) (by assumption) | exact And.right (by assumption) | exact And.right (And.right (by assumption))) _ | refine AH.le_trans ?_ (AccP.le (by assumption))))))
    · have hk := fun H hg => keys_calls (g := g) ho (H := H) hg
      have hi : v.items = [] := by cases v <;> first | rfl | exact absurd ⟨_,rfl⟩ hm | exact absurd ⟨_,rfl⟩ hm2
      rw [hi,nil_vE]
      cases v
      case map es => exact absurd ⟨_,rfl⟩ hm
      case list es => exact absurd ⟨_,rfl⟩ hm2
      all_goals simp only [vV_nul,vV_unk,vV_bool,vV_int,vV_pt,vV_text,vV_list,vV_map] at hk ⊢
      repeat' (first|with_reducible refine go0 ?_|(with_reducible refine am_cnd ?_ ?_<;>intro hc<;>try (exfalso;omega))|((first|with_reducible (first|refine go1 ?_|refine vc_intro ?_|refine need_el ?_|refine vlen_a ?_|refine need_by ?_|refine call_turn (hk _ hg) ?_|refine need_lk ?_)|((with_reducible refine alloc_intro (fun ko hko=>?_))<;>(try have hne:=fresh_ne (by assumption) hko)<;>(try have hnk:=fresh_ne hk hko)<;>(try simp only [AH.put_none] at hko))|((with_reducible refine vapp_go ?_ (fun v2 H2 hacc hlec=>?_));· simp only [byteCells_length,List.length_cons,List.length_nil,List.length_map,List.length_append,vE_length,mE_length,strE_len,List.length_take];omega)|done)<;>(try simp -implicitDefEqProofs (disch:=omega) only [go_sem,true_or,or_true,true_and,strE_len,Vl.keys,List.length_nil])))
      all_goals
        refine am_loop (fun n a H' => a = [(5,.nilSl),(6,.nilMap),(26,.sl 1 (strE []) .no),(27,.int .i64 (0 : Nat)),(28,.int .i64 (0 : Nat))] ∧ H' = H) ?_ 0 ⟨rfl,rfl⟩
        rintro n a H' ⟨rfl,rfl⟩
        repeat' (first|with_reducible refine go0 ?_|(with_reducible refine am_cnd ?_ ?_<;>intro hc<;>try (exfalso;omega))|((first|with_reducible (first|refine go1 ?_|refine vc_intro ?_|refine need_el ?_|refine vlen_a ?_|refine need_by ?_|refine need_lk ?_)|((with_reducible refine alloc_intro (fun ko hko=>?_))<;>(try have hne:=fresh_ne (by assumption) hko)<;>(try have hnk:=fresh_ne hk hko)<;>(try simp only [AH.put_none] at hko))|((with_reducible refine vapp_go ?_ (fun v2 H2 hacc hlec=>?_));· simp only [byteCells_length,List.length_cons,List.length_nil,List.length_map,List.length_append,vE_length,mE_length,strE_len,List.length_take];omega)|done)<;>(try simp -implicitDefEqProofs (disch:=omega) only [go_sem,wrap_id])))
        all_goals (refine drop_end (by (first | exact fun _ _ h => h | (intro s x h; first | exact no_sub _ h | exact nil_no _ h | exact AccP.sub (by assumption) _ _ h | (refine agg_sub rfl ?_ x h; repeat (first | exact .nil | refine .cons (fun _ h => h) ?_ | refine .cons (fun _ h => nil_no _ h) ?_ | refine .cons (fun _ h => no_sub _ h) ?_ | refine .cons (fun _ h => AccP.sub (by assumption) _ _ h) ?_)) | (refine tuple_sub ?_ x h; repeat (first | exact .nil | refine .cons (fun _ h => h) ?_ | refine .cons (fun _ h => nil_no _ h) ?_ | refine .cons (fun _ h => no_sub _ h) ?_ | refine .cons (fun _ h => AccP.sub (by assumption) _ _ h) ?_ | refine .cons (fun _ h => agg_sub rfl (by repeat (first | exact .nil | refine .cons (fun _ h => h) ?_ | refine .cons (fun _ h => nil_no _ h) ?_ | refine .cons (fun _ h => no_sub _ h) ?_ | refine .cons (fun _ h => AccP.sub (by assumption) _ _ h) ?_)) _ h) ?_))))) (by (repeat (first | exact AH.le_refl _ | assumption | exact AccP.le (by assumption) | refine AH.le_put ?_ (by first | assumption | exact none_of_le (by assumption) (by assumption) | exact And.right (by assumption) | exact And.right (And.right (by assumption))) _ | refine AH.le_trans ?_ (AccP.le (by assumption))))))
end Go.Proofs.YtkldmgnhbomknaaGreat
