/- reader.catch where a failure is on its way: the error is laid, the panic is recovered. -/
import Derived.Test.YtgipbdffgfbedaaGreatDoorCG
import Derived.Laws.Pointers
import Derived.Laws.NewBlocks
set_option linter.all false
namespace Go.Proofs.YtgipbdffgfbedaaGreatDoor
open Go.Abs
theorem c7m (v:Value) (xT:TypeId) (w:World):(Instr.typeAssert (.iface 117 v) xT 117 true).run Tryz.prog w=.ok (.tuple #[v,.bool true]) w:=by
 simp [Instr.typeAssert,run_underlying Tryz.underlying117]
theorem e7k (w:World) (b:Nat) (x y e p:Value) (t t':TypeId) (hb:w.heap[b]?=some (.cells #[x,y] t (0,0))) (c:Array Value) :
  ((w.setCell ⟨b,0,none⟩ e).setCell ⟨b,1,none⟩ p).alloc (.cells c t')=(w.alloc (.cells c t')).setRow b #[e,p]:=by
 have hlt:b < w.heap.size:=(Array.getElem?_eq_some_iff.1 hb).1
 unfold World.setCell World.alloc World.setRow
 congr 1
 apply Array.ext_getElem?
 intro k
 simp only [Array.getElem?_modify,Array.getElem?_push,Array.size_modify]
 by_cases hk:k=w.heap.size
 ·subst hk
  simp [Nat.ne_of_lt hlt]
 ·by_cases hkb:b=k
  ·subst hkb
   simp [hk,hb]
  ·simp [hk,hkb]
theorem d9n (w:World):(Op.unary .not (.bool true)).run Tryz.prog w=.ok (.bool false) w:=by simp [Op.unary]
attribute [local go_sem] c7m
set_option maxRecDepth 100000 in
set_option maxHeartbeats 400000 in
theorem c39 (b:Nat) (w:World) (e pos:Int) (older:List PanicEntry) (x y:Value) (t:TypeId) (hb:w.heap[b]?=some (.cells #[x,y] t (0,0))) :
  CallsD Tryz.prog 88 #[.pointer (some ⟨b,0,none⟩)] (.panicking ({ v:=.iface 117 (.agg #[.int .i64 e,.int .i64 pos]),recovered:=false } :: older)) w fun r u' w' =>
   r=.returned (.tuple #[])∧u'=.panicking ({ v:=.iface 117 (.agg #[.int .i64 e,.int .i64 pos]),recovered:=true } :: older) ∧
    w'=(w.alloc (.cells #[.int .i64 e,.int .i64 pos] 117)).setRow b #[.int .i64 e,.int .i64 pos]:=by
 have hlt:b < w.heap.size:=(Array.getElem?_eq_some_iff.1 hb).1
 refine callsD_of_wpS Tryz.func88 rfl fun c₀ cs hu=>?_
 apply wpS_seq
 apply wpS_region
 simp [wpOpsS,go_sem,recoverD,hu,Tryz.ntmps88,Exit.thenS]
 apply wpS_seq
 apply wpS_seq
 apply wpS_region
 simp [wpOpsS,go_sem,Exit.thenS]
 refine wpS_cond (t:=false) (by simp [Act.eval,Array.replicate]) ?_
 simp only [Bool.false_eq_true,if_false]
 refine wpS_of_wp (wp_skip ?_)
 simp only [Exit.thenS]
 refine wpS_of_wp ?_
 have hc0:w.cell? ⟨b,0,none⟩=some x:=by simp [World.cell?,hb]
 have hc1:w.cell? ⟨b,1,none⟩=some y:=by simp [World.cell?,hb]
 have hf0:w.frozen? ⟨b,0,none⟩=false:=by simp [World.frozen?,hb]
 have hf1:w.frozen? ⟨b,1,none⟩=false:=by simp [World.frozen?,hb]
 go_wp2
 rw [d9n]
 go_upon
 go_step
 go_step
 simp only [Exit.then]
 rename_i K1 h1 K2 h2
 refine h2 _ _ ?_
 refine wp_cond_false (by simp [Act.eval,Array.replicate]) ?_
 refine wp_skip ?_
 simp only [Exit.then]
 refine h1 _ _ ?_
 go_step
 go_step
 go_step
 go_step
 go_step
 go_step
 go_step
 first | go_step | go_upon
 first | go_step | go_upon
 first | go_step | go_upon
 first | go_step | go_upon
 first | go_step | go_upon
 first | go_step | go_upon
 first | go_step | go_upon
 first | go_step | go_upon
 rename_i K3 h3
 refine h3 _ _ ?_
 go_step
 cases c₀
 simp_all [bodyPostS,results,Tryz.results88,Exit.thenS]
 exact e7k w b x y _ _ t _ (Array.getElem?_eq_some_iff.2 ⟨_,hb⟩) _
end Go.Proofs.YtgipbdffgfbedaaGreatDoor
