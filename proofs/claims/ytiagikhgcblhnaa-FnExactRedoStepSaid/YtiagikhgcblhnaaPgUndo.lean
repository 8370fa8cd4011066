/- Pages: UndoStep and RedoStep, all together. Conditions: none. -/
import Derived.Test.YtiagikhgcblhnaaPgUndo1
import Derived.Test.YtiagikhgcblhnaaPgUndo2
import Derived.Test.YtiagikhgcblhnaaPgUndo3
import Derived.Test.YtiagikhgcblhnaaPgUndo4
