/- The words. -/
import Derived.Test.YtjddbhhbmfcepaaDoorWd0
