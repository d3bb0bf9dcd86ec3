import Derived.Lib.Builder
import Derived.Lib.SlBytesConst
import Derived.Test.YtdffphkbidfejaaDoorMK3
section
namespace Go.Proofs.YtdffphkbidfejaaDoor.Q
open Go.RowKit Go.Proofs.YtdffphkbidfejaaDoorW.PrintWords Go.Proofs.YtdffphkbidfejaaDoorW.PrintLast Go.Proofs.YtdffphkbidfejaaDoorW.PrintMore
set_option linter.unusedVariables false
set_option linter.unusedSimpArgs false
def LitC (w:World) (v:Value) (xs:List Int):Prop:= ∃(A:Option Addr) (c:Nat),v= .slice A xs.length c∧xs.length≤c∧Kd.C (Kd.int .u8) w A xs.length xs
section
variable {P:Program} {ops:Array Oper} {rest:List Oper} {o o2:Oper} {a:Act} {Q:Exit→Act→World→Prop} {W:World}
theorem lit_heap (w:World) (o:Obj):(w.alloc o).heap[w.heap.size]? =some o:=by
 show (w.heap.push o)[w.heap.size]? =_;simp
theorem lit_conv (t e:TypeId) (ht:P.underlying t=some (.slice e)) (he:P.underlying e=some (.int .u8)) (hgd:o.guard=none) {N N2:Tmp} (hd:o.dst=some N) (hgd2:o2.guard=none) (hd2:o2.dst=some N2) (ho2:o2.op= .convert t t (.tmp N)) (hN:N<a.tmps.size) {xs:List Int} {inner:List Value}
 (hrun:(execOp a.eval o).run P W= .ok (.value (.slice (some ⟨W.heap.size,0,none⟩) xs.length xs.length)) (W.alloc (.cells inner.toArray e))) (hin:inner=xs.map (Value.int .u8)) (hm:xs.length≤1000000)
 (h: ∀v1 w1,LitC w1 v1 xs→Below W.heap.size W w1→wpList P ops Q rest ((a.put (some N) v1).put (some N2) v1) w1):wpList P ops Q (o::o2::rest) a W:=by
 refine Kd.event_run hgd hrun ?_;rw [hd]
 have hev:(a.put (some N) (.slice (some ⟨W.heap.size,0,none⟩) xs.length xs.length)).eval (.tmp N)= .slice (some ⟨W.heap.size,0,none⟩) xs.length xs.length:=by
  simp [Act.eval,Act.put,hN]
 have hrun2:(execOp (a.put (some N) (.slice (some ⟨W.heap.size,0,none⟩) xs.length xs.length)).eval o2).run P (W.alloc (.cells inner.toArray e))= .ok (.value (.slice (some ⟨W.heap.size,0,none⟩) xs.length xs.length)) (W.alloc (.cells inner.toArray e (inner.toArray.size,inner.toArray.size+1))):=by
  have hc:=Lib.run_convert_bytes_const (P:=P) W t e inner.toArray xs.length xs.length ht he;unfold execOp;rw [ho2];simp only [hev,Sem.run_bind,hc,Result.andThen_ok];rfl
 refine Kd.event_run hgd2 hrun2 ?_;rw [hd2];refine h _ _ ⟨some ⟨W.heap.size,0,none⟩,xs.length,rfl,Nat.le_refl _,?_⟩ ((Below.refl _ _).alloc (Nat.le_refl _) _);refine Kd.C_of_reads (enc:=Value.int .u8) (d:=(0:Int)) (h1:=fun _=>rfl) ?_;refine ⟨rfl,by omega,fun h0=>⟨_,rfl,fun j hj=>?_⟩⟩;have hb:=lit_heap W (.cells inner.toArray e (inner.toArray.size,inner.toArray.size+1))
 have hplain:(⟨W.heap.size,0,none⟩:Addr).add j=⟨W.heap.size,j,none⟩:=by
  unfold Addr.add
  split
  · rename_i h;have hj0:j=0:=by simpa using h
    rw [hj0]
  · simp
 rw [hplain,Lib.cell_of_heap hb];subst hin;simp [List.getD_eq_getElem?_getD,List.getElem?_eq_getElem hj]
end
end Go.Proofs.YtdffphkbidfejaaDoor.Q
end
